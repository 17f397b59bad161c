/- Values of calls, told abstractly, with what is held: part 1. -/
import Derived.Below
import Derived.Orders
import Derived.Laws.OwnMore
import Derived.Lib.LaidTab
import Derived.Lib.ItoaNum
import Derived.WalkLawsBesides
import Derived.Laws.IdiomCopy
set_option linter.unusedVariables false
set_option linter.unusedSimpArgs false
namespace Go.Bv
open Go.RowKit
theorem oInj {α : Type _} {a b : α} (h : some a = some b) : a = b := Option.some.inj h
inductive AV where
 | int (k : IntKind) (n : Int)
 | bool (b : Bool)
 | str (s : ByteArray)
 | agg (cs : List AV)
 | tup (vs : List AV)
 | sl (xs : List (List AV))
 | vptr (cs : List AV)
 | func (f : Nat) (caps : List AV)
 | mp (ks vs : List AV)
 | slx
 | raw (v : Value)
 | nil (b : Bool)
 | undef
def nilV : Bool → Value
 | true => .pointer none
 | false => .slice none 0 0
def AV.cells : AV → List AV
 | .agg cs => cs
 | v => [v]
abbrev Gh := Nat → Option Nat
def okc (X : Gh) (b o : Nat) : Prop := match X b with | none => True | some n => o < n
mutual
def Rel (X : Gh) (w : World) : AV → Value → Prop
 | .int k n, v => v = .int k n
 | .bool b, v => v = .bool b
 | .str s, v => v = .string s
 | .agg cs, v => ∃ us : List Value, v = .agg us.toArray ∧ RelL X w cs us
 | .tup vs, v => ∃ us : List Value, v = .tuple us.toArray ∧ RelL X w vs us
 | .sl xs, v => ∃ A len cap, v = .slice A len cap ∧ len = xs.length ∧ len ≤ cap ∧ (xs = [] ∨ ∃ b o sz, A = some ⟨b, o, none⟩ ∧ RelE X w sz b o xs)
 | .vptr cs, v => ∃ b o, v = .pointer (some ⟨b, o, none⟩) ∧ RelC X w b o cs
 | .func f caps, v => ∃ us : List Value, v = .func (.func f) #[] us.toArray ∧ RelL X w caps us
 | .mp ks vs, v => ∃ r es k, v = .map (some r) ∧ w.heap[r]? = some (.map es k) ∧ X r = none ∧ RelL X w ks (es.toList.map MapEntry.key) ∧ RelL X w vs (es.toList.map MapEntry.val)
 | .slx, v => ∃ A len cap, v = .slice A len cap
 | .raw u, v => v = u ∧ ∃ A len cap, v = .slice A len cap
 | .nil b, v => v = nilV b
 | .undef, _ => True
def RelL (X : Gh) (w : World) : List AV → List Value → Prop
 | [], us => us = []
 | c :: cs, us => ∃ u r, us = u :: r ∧ Rel X w c u ∧ RelL X w cs r
def RelC (X : Gh) (w : World) (b o : Nat) : List AV → Prop
 | [] => True
 | c :: cs => (∃ u, w.cell? ⟨b, o, none⟩ = some u ∧ okc X b o ∧ Rel X w c u) ∧ RelC X w b (o + 1) cs
def RelE (X : Gh) (w : World) (sz b o : Nat) : List (List AV) → Prop
 | [] => True
 | cs :: xs => cs.length = sz ∧ RelC X w b o cs ∧ RelE X w sz b (o + sz) xs
end
structure Ext (X : Gh) (w : World) (X' : Gh) (w' : World) : Prop where
 c : ∀ b o u, w.cell? ⟨b, o, none⟩ = some u → okc X b o → w'.cell? ⟨b, o, none⟩ = some u ∧ okc X' b o
 m : ∀ r es k, w.heap[r]? = some (.map es k) → X r = none → w'.heap[r]? = some (.map es k) ∧ X' r = none
theorem Ext.refl (X w) : Ext X w X w := ⟨fun _ _ _ h k => ⟨h, k⟩, fun _ _ _ h k => ⟨h, k⟩⟩
theorem Ext.trans {X w X' w' X'' w''} (h : Ext X w X' w') (h' : Ext X' w' X'' w'') : Ext X w X'' w'' :=
 ⟨fun b o u hc hk => let ⟨c, k⟩ := h.c b o u hc hk; h'.c b o u c k, fun r es q hc hk => let ⟨c, k⟩ := h.m r es q hc hk; h'.m r es q c k⟩
mutual
theorem Rel.mono {X X' : Gh} {w w' : World} (h : Ext X w X' w') : ∀ (v : AV) (u : Value), Rel X w v u → Rel X' w' v u
 | .int _ _, _, r => r
 | .bool _, _, r => r
 | .str _, _, r => r
 | .agg cs, _, ⟨us, e, r⟩ => ⟨us, e, RelL.mono h cs us r⟩
 | .tup cs, _, ⟨us, e, r⟩ => ⟨us, e, RelL.mono h cs us r⟩
 | .sl xs, _, ⟨A, len, cap, e, hl, hc, r⟩ => ⟨A, len, cap, e, hl, hc, r.imp id fun ⟨b, o, sz, e, r⟩ => ⟨b, o, sz, e, RelE.mono h sz b o xs r⟩⟩
 | .vptr cs, _, ⟨b, o, e, r⟩ => ⟨b, o, e, RelC.mono h b o cs r⟩
 | .func _ cs, _, ⟨us, e, r⟩ => ⟨us, e, RelL.mono h cs us r⟩
 | .mp ks vs, _, ⟨r, es, k, e, h1, h2, a, b⟩ => ⟨r, es, k, e, (h.m r es k h1 h2).1, (h.m r es k h1 h2).2, RelL.mono h ks _ a, RelL.mono h vs _ b⟩
 | .slx, _, r => r
 | .raw _, _, r => r
 | .nil _, _, r => r
 | .undef, _, _ => trivial
theorem RelL.mono {X X' : Gh} {w w' : World} (h : Ext X w X' w') : ∀ (cs : List AV) (us : List Value), RelL X w cs us → RelL X' w' cs us
 | [], _, r => r
 | c :: cs, _, ⟨u, r, e, a, b⟩ => ⟨u, r, e, Rel.mono h c u a, RelL.mono h cs r b⟩
theorem RelC.mono {X X' : Gh} {w w' : World} (h : Ext X w X' w') : ∀ (b o : Nat) (cs : List AV), RelC X w b o cs → RelC X' w' b o cs
 | _, _, [], r => r
 | b, o, c :: cs, ⟨⟨u, e, k, r⟩, q⟩ => ⟨⟨u, (h.c b o u e k).1, (h.c b o u e k).2, Rel.mono h c u r⟩, RelC.mono h b (o + 1) cs q⟩
theorem RelE.mono {X X' : Gh} {w w' : World} (h : Ext X w X' w') : ∀ (sz b o : Nat) (xs : List (List AV)), RelE X w sz b o xs → RelE X' w' sz b o xs
 | _, _, _, [], r => r
 | sz, b, o, cs :: xs, ⟨e, r, q⟩ => ⟨e, RelC.mono h b o cs r, RelE.mono h sz b (o + sz) xs q⟩
end
theorem RelL.length {X w} : ∀ {cs : List AV} {us : List Value}, RelL X w cs us → us.length = cs.length
 | [], _, r => by rw [show _ = [] from r]; rfl
 | c :: cs, _, ⟨u, r, e, _, b⟩ => by rw [e]; simp [RelL.length b]
theorem RelL.append {X w} : ∀ {cs ds : List AV} {us vs : List Value}, RelL X w cs us → RelL X w ds vs → RelL X w (cs ++ ds) (us ++ vs)
 | [], _, _, _, r, q => by rw [show _ = [] from r]; exact q
 | c :: cs, _, _, _, ⟨u, r, e, a, b⟩, q => by rw [e]; exact ⟨u, _, rfl, a, RelL.append b q⟩
theorem RelL.drop {X w} : ∀ (n : Nat) {cs : List AV} {us : List Value}, RelL X w cs us → RelL X w (cs.drop n) (us.drop n)
 | 0, _, _, r => r
 | n + 1, [], _, r => by rw [show _ = [] from r]; exact rfl
 | n + 1, c :: cs, _, ⟨u, r, e, _, b⟩ => by rw [e]; exact RelL.drop n b
theorem RelL.take {X w} : ∀ (n : Nat) {cs : List AV} {us : List Value}, RelL X w cs us → RelL X w (cs.take n) (us.take n)
 | 0, _, _, _ => rfl
 | n + 1, [], _, r => by rw [show _ = [] from r]; exact rfl
 | n + 1, c :: cs, _, ⟨u, r, e, a, b⟩ => by rw [e]; exact ⟨u, _, rfl, a, RelL.take n b⟩
theorem RelL.get {X w} : ∀ {cs : List AV} {us : List Value} (i : Nat) {c : AV}, RelL X w cs us → cs[i]? = some c → ∃ u, us[i]? = some u ∧ Rel X w c u
 | [], _, _, _, _, h => by simp at h
 | c :: cs, _, 0, _, ⟨u, r, e, a, b⟩, h => by rw [e]; simp at h; exact ⟨u, rfl, h ▸ a⟩
 | c :: cs, _, i + 1, _, ⟨u, r, e, a, b⟩, h => by rw [e]; exact RelL.get i b (by simpa using h)
theorem RelL.set {X w} : ∀ {cs : List AV} {us : List Value} (i : Nat) {c : AV} {u : Value}, RelL X w cs us → Rel X w c u → RelL X w (cs.set i c) (us.set i u)
 | [], _, _, _, _, r, _ => by rw [show _ = [] from r]; exact rfl
 | c :: cs, _, 0, _, _, ⟨u, r, e, a, b⟩, h => by rw [e]; exact ⟨_, _, rfl, h, b⟩
 | c :: cs, _, i + 1, _, _, ⟨u, r, e, a, b⟩, h => by rw [e]; exact ⟨u, _, rfl, a, RelL.set i b h⟩
theorem Rel.cells {X w} {v : AV} {u : Value} (h : Rel X w v u) (hv : v ≠ .undef) (ht : ∀ vs, v ≠ .tup vs) : RelL X w v.cells u.cells.toList := by
 cases v with
 | agg cs => obtain ⟨us, rfl, r⟩ := h; exact r
 | int k n => rw [show u = _ from h]; exact ⟨_, [], rfl, rfl, rfl⟩
 | bool b => rw [show u = _ from h]; exact ⟨_, [], rfl, rfl, rfl⟩
 | str s => rw [show u = _ from h]; exact ⟨_, [], rfl, rfl, rfl⟩
 | tup vs => exact absurd rfl (ht vs)
 | sl xs => obtain ⟨A, len, cap, rfl, r⟩ := h; exact ⟨_, [], rfl, ⟨A, len, cap, rfl, r⟩, rfl⟩
 | vptr cs => obtain ⟨b, o, rfl, r⟩ := h; exact ⟨_, [], rfl, ⟨b, o, rfl, r⟩, rfl⟩
 | func f cs => obtain ⟨us, rfl, r⟩ := h; exact ⟨_, [], rfl, ⟨us, rfl, r⟩, rfl⟩
 | mp ks vs => obtain ⟨r, es, k, rfl, h⟩ := h; exact ⟨_, [], rfl, ⟨r, es, k, rfl, h⟩, rfl⟩
 | slx => obtain ⟨A, len, cap, rfl⟩ := h; exact ⟨_, [], rfl, ⟨A, len, cap, rfl⟩, rfl⟩
 | raw q => obtain ⟨rfl, A, len, cap, rfl⟩ := h; exact ⟨_, [], rfl, ⟨rfl, A, len, cap, rfl⟩, rfl⟩
 | nil b => rw [show u = _ from h]; cases b <;> exact ⟨_, [], rfl, rfl, rfl⟩
 | undef => exact absurd rfl hv
theorem RelC.get {X w} : ∀ {b o : Nat} {cs : List AV} (i : Nat) {c : AV}, RelC X w b o cs → cs[i]? = some c → ∃ u, w.cell? ⟨b, o + i, none⟩ = some u ∧ okc X b (o + i) ∧ Rel X w c u
 | _, _, [], _, _, _, h => by simp at h
 | b, o, c :: cs, 0, _, ⟨⟨u, e, k, a⟩, q⟩, h => by simp at h; exact ⟨u, e, k, h ▸ a⟩
 | b, o, c :: cs, i + 1, _, ⟨⟨u, e, k, a⟩, q⟩, h => by
  have := RelC.get (b := b) (o := o + 1) i q (by simpa using h)
  rwa [show o + 1 + i = o + (i + 1) by omega] at this
theorem RelC.drop {X w} : ∀ (n : Nat) {b o : Nat} {cs : List AV}, RelC X w b o cs → RelC X w b (o + n) (cs.drop n)
 | 0, _, _, _, r => r
 | n + 1, b, o, [], r => trivial
 | n + 1, b, o, c :: cs, ⟨_, q⟩ => by
  have := RelC.drop n q
  rw [show o + 1 + n = o + (n + 1) by omega] at this; exact this
theorem RelC.take {X w} : ∀ (n : Nat) {b o : Nat} {cs : List AV}, RelC X w b o cs → RelC X w b o (cs.take n)
 | 0, _, _, _, _ => trivial
 | n + 1, b, o, [], r => trivial
 | n + 1, b, o, c :: cs, ⟨a, q⟩ => ⟨a, RelC.take n q⟩
theorem RelE.get {X w} : ∀ {sz b o : Nat} {xs : List (List AV)} (i : Nat) {c : List AV}, RelE X w sz b o xs → xs[i]? = some c → c.length = sz ∧ RelC X w b (o + i * sz) c
 | _, _, _, [], _, _, _, h => by simp at h
 | sz, b, o, c :: cs, 0, _, ⟨e, k, a⟩, h => by simp at h; subst h; exact ⟨e, by simpa using k⟩
 | sz, b, o, c :: cs, i + 1, _, ⟨e, k, a⟩, h => by
  have := RelE.get (sz := sz) (b := b) (o := o + sz) i a (by simpa using h)
  rwa [show o + sz + i * sz = o + (i + 1) * sz by rw [Nat.add_mul]; omega] at this
theorem RelE.drop {X w} : ∀ (n : Nat) {sz b o : Nat} {xs : List (List AV)}, RelE X w sz b o xs → RelE X w sz b (o + n * sz) (xs.drop n)
 | 0, _, _, _, _, r => by simpa using r
 | n + 1, _, _, _, [], _ => trivial
 | n + 1, sz, b, o, c :: cs, ⟨_, _, q⟩ => by
  have := RelE.drop n q
  rw [show o + sz + n * sz = o + (n + 1) * sz by rw [Nat.add_mul]; omega] at this; exact this
theorem RelE.take {X w} : ∀ (n : Nat) {sz b o : Nat} {xs : List (List AV)}, RelE X w sz b o xs → RelE X w sz b o (xs.take n)
 | 0, _, _, _, _, _ => trivial
 | n + 1, _, _, _, [], _ => trivial
 | n + 1, sz, b, o, c :: cs, ⟨e, a, q⟩ => ⟨e, a, RelE.take n q⟩
theorem RelE.append {X w} : ∀ {sz b o : Nat} {xs ys : List (List AV)}, RelE X w sz b o xs → RelE X w sz b (o + xs.length * sz) ys → RelE X w sz b o (xs ++ ys)
 | _, _, _, [], _, _, q => by simpa using q
 | sz, b, o, c :: cs, ys, ⟨e, a, r⟩, q => ⟨e, a, RelE.append r (by
   have : o + (cs.length + 1) * sz = o + sz + cs.length * sz := by rw [Nat.add_mul]; omega
   simpa [this] using q)⟩
end Go.Bv

namespace Go.Bv
open Go.RowKit
inductive OP where
 | t (s j : Nat)
 | b (d j : Nat)
 | a (i j : Nat)
 deriving DecidableEq
inductive LP where
 | box (d : Nat)
 | ptr (d : Nat)
 | arg (i j : Nat)
 | own (p : OP)
 deriving DecidableEq
abbrev Path := List (Nat × Nat × Nat)
inductive OE where
 | app (e : TypeId)
 | ex (e : TypeId) (dp : Bool) (xs : List (List AV))
 | al (p : OP) (π : Path)
 | sb (p : OP) (π : Path) (lo sz n : Nat)
def OE.owner : OE → Bool
 | .app _ => true
 | .ex _ _ _ => true
 | _ => false
abbrev OwnL := List (Nat × OE)
inductive SV where
 | v (x : AV)
 | ptr (d off : Nat)
 | el (p : OP) (π : Path) (i sz off : Nat)
 | mp (d : Nat)
inductive BX where
 | cells (cs : List AV) (own : OwnL)
 | map (ks vs : List AV)
 | ref (q : Nat)
 | part (m : Nat) (cs : List AV)
def BX.lim : BX → Nat
 | .part m _ => m
 | _ => 0
structure Look where
 t : Nat → Option (SV × OwnL)
 b : Nat → Option BX
 g : Nat → Option OwnL
inductive Ref where
 | t (s : Nat)
 | b (d : Nat)
 | bp (d : Nat)
 | a (i : Nat)
 | o (p : OP)
inductive Upd where
 | f (r : Ref)
 | t (s : Nat) (e : SV × OwnL)
 | b (d : Nat) (e : BX)
 | g (i : Nat) (e : OwnL)
def OP.same : OP → OP → Bool
 | .t s j, .t k i => Nat.beq s k && Nat.beq j i
 | .b s j, .b k i => Nat.beq s k && Nat.beq j i
 | .a s j, .a k i => Nat.beq s k && Nat.beq j i
 | _, _ => false
theorem OP.same_iff {p q : OP} : p.same q = true ↔ q = p := by
 have key : ∀ {a b c d : Nat}, (Nat.beq a b && Nat.beq c d) = true ↔ b = a ∧ d = c := fun {a b c d} => by
  rw [Bool.and_eq_true]
  exact ⟨fun ⟨h1, h2⟩ => ⟨(Nat.eq_of_beq_eq_true h1).symm, (Nat.eq_of_beq_eq_true h2).symm⟩, fun ⟨h1, h2⟩ => by subst h1; subst h2; exact ⟨Nat.beq_refl _, Nat.beq_refl _⟩⟩
 cases p <;> cases q <;> simp only [OP.same, OP.t.injEq, OP.b.injEq, OP.a.injEq, key, Bool.false_eq_true, reduceCtorEq]
def OP.inn : Ref → OP → Bool
 | .o q, p => OP.same q p
 | .t s, .t k _ => Nat.beq s k
 | .b s, .b k _ => Nat.beq s k
 | .bp s, .b k _ => Nat.beq s k
 | .a s, .a k _ => Nat.beq s k
 | _, _ => false
def pinB : OP → Path → Bool
 | .a _ _, [] => true
 | _, _ => false
def hdrR : Ref → Path → Bool
 | .o _, [] => true
 | _, _ => false
def OE.refs (r : Ref) : OE → Bool
 | .al p π => !pinB p π && !hdrR r π && p.inn r
 | .sb p π _ _ _ => !hdrR r π && p.inn r
 | _ => false
def Z4l (r : Ref) : OwnL → Bool
 | [] => false
 | (_, x) :: l => x.refs r || Z4l r l
def SV.refs (r : Ref) : SV → Bool
 | .v _ => false
 | .ptr d _ => match r with | .bp k => Nat.beq k d | _ => false
 | .el p π _ _ _ => !hdrR r π && p.inn r
 | .mp d => match r with | .bp k => Nat.beq k d | _ => false
def Zfl (r : Ref) (e : SV × OwnL) : Bool := e.1.refs r || Z4l r e.2
def Zi1 (r : Ref) : BX → Bool
 | .cells _ own => Z4l r own
 | .map _ _ => false
 | .part _ _ => false
 | .ref q => match r with | .bp k => Nat.beq k q | _ => false
def Z112 (r : Ref) (e : SV × OwnL) : Option (SV × OwnL) := match Zfl r e with | true => none | false => some e
def Z114 (r : Ref) (e : BX) : Option BX := match Zi1 r e with | true => none | false => some e
def Z113 (r : Ref) (e : OwnL) : Option OwnL := match Z4l r e with | true => none | false => some e
def Look.upd (L : Look) : Upd → Look
 | .f r => { t := fun k => (L.t k).bind (Z112 r), b := fun k => (L.b k).bind (Z114 r), g := fun k => (L.g k).bind (Z113 r) }
 | .t s e => { L with t := fun k => if k = s then some e else L.t k }
 | .b d e => { L with b := fun k => if k = d then some e else L.b k }
 | .g d e => { L with g := fun k => if k = d then some e else L.g k }
def Look.upds (L : Look) (us : List Upd) : Look := us.foldl Look.upd L
def Zdi (P : Program) (t : TypeId) : Option Bool := (P.underlying t).map fun | .struct _ | .array _ _ => true | _ => false
def Z4x (P : Program) (t : TypeId) : Option Nat := (P.info? t).map (·.size)
def Zzq (P : Program) (t : TypeId) : Option Nat := (P.info? t).map (·.bytes)
def Zl2 (P : Program) (t : TypeId) : Option TypeId := match P.underlying t with | some (.slice e) => some e | _ => none
def Zhk (P : Program) (t : TypeId) : Bool := match P.underlying t with | some .string => true | _ => false
def Zoz (P : Program) (t : TypeId) (f : Nat) : Option (Nat × TypeId) := match P.underlying t with | some (.struct fs) => (fs[f]?).map fun x => (x.offset, x.type) | _ => none
def Zsd (P : Program) (t : TypeId) : Option IntKind := match P.underlying t with | some (.int k) => some k | _ => none
def Zcs : Value → Option AV
 | .int k n => some (.int k n)
 | .bool b => some (.bool b)
 | .string s => some (.str s)
 | .slice none 0 0 => some (.sl [])
 | .pointer none => some (.nil true)
 | .nilFunc => some .undef
 | .map none => some .undef
 | .nilIface => some .undef
 | _ => none
def Z8h : List Value → Option (List AV)
 | [] => some []
 | v :: vs => match Zcs v, Z8h vs with | some a, some as => some (a :: as) | _, _ => none
def Zkm (v : Value) : Option AV :=
 match v with
 | .agg cs => (Z8h cs.toList).map .agg
 | v => Zcs v
def Zsv (P : Program) (t : TypeId) : Option (List AV) := (P.info? t).bind fun i => i.zero.bind fun z => Z8h z.cells.toList
def Zrn (P : Program) : Nat → Nat → TypeId → List (Nat × TypeId)
 | 0, _, _ => []
 | k + 1, off, t => match P.underlying t with
  | some (.slice e) => [(off, e)]
  | some (.struct fs) => fs.toList.flatMap fun f => Zrn P k (off + f.offset) f.type
  | _ => []
def AV.flat : AV → List AV
 | .tup vs => vs.flatMap AV.cells
 | v => v.cells
def Value.flat : Value → List Value
 | .tuple vs => vs.toList.flatMap fun v => v.cells.toList
 | v => v.cells.toList
def Z7p (agg : Bool) : List AV → Option AV
 | cs => if agg then some (.agg cs) else match cs with | [c] => some c | _ => none
def lkO : OwnL → Nat → Option OE
 | [], _ => none
 | (k, v) :: l, x => match Nat.beq k x with | true => some v | false => lkO l x
theorem Z3x : ∀ {l : OwnL} {k : Nat} {e : OE}, lkO l k = some e → (k, e) ∈ l
 | [], k, e, h => by cases h
 | (j, x) :: l, k, e, h => by
  simp only [lkO] at h
  cases hj : Nat.beq j k with
  | true => rw [hj] at h; cases h; have := Nat.eq_of_beq_eq_true hj; subst this; simp
  | false => rw [hj] at h; simp [Z3x h]
theorem Zi {r : Ref} : ∀ {l : OwnL}, Z4l r l = false → ∀ j x, (j, x) ∈ l → x.refs r = false
 | [], _, j, x, h => by cases h
 | (k, y) :: l, h, j, x, hm => by
  simp only [Z4l, Bool.or_eq_false_iff] at h
  rcases List.mem_cons.1 hm with h1 | h1
  ·cases h1; exact h.1
  ·exact Zi h.2 j x h1
end Go.Bv

namespace Go.Bv
open Go.RowKit
def blks (u : Value) : List Nat := match u.ownBlock with | some b => [b] | none => []
theorem Z4f {u : Value} {b : Nat} : b ∈ blks u ↔ u.ownBlock = some b := by
 unfold blks
 cases u.ownBlock with
 | none => simp
 | some k => simp; exact ⟨fun e => e.symm, fun e => e.symm⟩
mutual
def DV (P : Program) (w : World) : AV → Value → List Nat → Prop
 | .int k n, u, F => u = .int k n ∧ F = []
 | .bool b, u, F => u = .bool b ∧ F = []
 | .str s, u, F => u = .string s ∧ F = []
 | .sl xs, u, F => ∃ e sz us F', Z4x P e = some sz ∧ w.ownsRow 0 e sz u xs.length us ∧ DVE P w sz xs us F' ∧ F = blks u ++ F'
 | _, _, _ => False
def DVE (P : Program) (w : World) (sz : Nat) : List (List AV) → List Value → List Nat → Prop
 | [], us, F => us = [] ∧ F = []
 | c :: xs, us, F => ∃ us1 us2 F1 F2, us = us1 ++ us2 ∧ F = F1 ++ F2 ∧ c.length = sz ∧ DVL P w c us1 F1 ∧ DVE P w sz xs us2 F2
def DVL (P : Program) (w : World) : List AV → List Value → List Nat → Prop
 | [], us, F => us = [] ∧ F = []
 | c :: cs, us, F => ∃ u r F1 F2, us = u :: r ∧ F = F1 ++ F2 ∧ DV P w c u F1 ∧ DVL P w cs r F2
end
variable {P : Program} {w w' : World}
theorem Zaq {base n sz : Nat} {e : TypeId} {v : Value} {xs : List Value} (h : w.ownsRow base e sz v n xs) (hs : ∀ b ∈ blks v, w'.heap[b]? = w.heap[b]?) : w'.ownsRow base e sz v n xs := by
 refine ⟨h.1, h.2.imp id ?_⟩
 rintro ⟨g, cap, cur, rfl, h1, h2, h3⟩
 exact ⟨g, cap, cur, rfl, h1, (hs g (by simp [blks, Value.ownBlock])).trans h2, h3⟩
mutual
theorem DV.stay : ∀ (v : AV) (u : Value) (F : List Nat), DV P w v u F → (∀ b ∈ F, w'.heap[b]? = w.heap[b]?) → DV P w' v u F
 | .int _ _, _, _, h, _ => h
 | .bool _, _, _, h, _ => h
 | .str _, _, _, h, _ => h
 | .sl xs, u, F, ⟨e, sz, us, F', h1, h2, h3, h4⟩, hs => by
  subst h4
  exact ⟨e, sz, us, F', h1, Zaq h2 (fun b hb => hs b (by simp [hb])), DVE.stay sz xs us F' h3 (fun b hb => hs b (by simp [hb])), rfl⟩
 | .undef, _, _, h, _ => h.elim
 | .agg _, _, _, h, _ => h.elim
 | .tup _, _, _, h, _ => h.elim
 | .vptr _, _, _, h, _ => h.elim
 | .func _ _, _, _, h, _ => h.elim
 | .mp _ _, _, _, h, _ => h.elim
 | .slx, _, _, h, _ => h.elim
 | .raw _, _, _, h, _ => h.elim
 | .nil _, _, _, h, _ => h.elim
theorem DVE.stay (sz : Nat) : ∀ (xs : List (List AV)) (us : List Value) (F : List Nat), DVE P w sz xs us F → (∀ b ∈ F, w'.heap[b]? = w.heap[b]?) → DVE P w' sz xs us F
 | [], _, _, h, _ => h
 | c :: xs, us, F, ⟨us1, us2, F1, F2, h1, h2, h3, h4, h5⟩, hs => by
  subst h2
  exact ⟨us1, us2, F1, F2, h1, rfl, h3, DVL.stay c us1 F1 h4 (fun b hb => hs b (by simp [hb])), DVE.stay sz xs us2 F2 h5 (fun b hb => hs b (by simp [hb]))⟩
theorem DVL.stay : ∀ (cs : List AV) (us : List Value) (F : List Nat), DVL P w cs us F → (∀ b ∈ F, w'.heap[b]? = w.heap[b]?) → DVL P w' cs us F
 | [], _, _, h, _ => h
 | c :: cs, us, F, ⟨u, r, F1, F2, h1, h2, h3, h4⟩, hs => by
  subst h2
  exact ⟨u, r, F1, F2, h1, rfl, DV.stay c u F1 h3 (fun b hb => hs b (by simp [hb])), DVL.stay cs r F2 h4 (fun b hb => hs b (by simp [hb]))⟩
end
mutual
theorem DV.lt : ∀ (v : AV) (u : Value) (F : List Nat), DV P w v u F → ∀ b ∈ F, b < w.heap.size
 | .int _ _, _, _, ⟨_, e⟩, b, hb => by subst e; cases hb
 | .bool _, _, _, ⟨_, e⟩, b, hb => by subst e; cases hb
 | .str _, _, _, ⟨_, e⟩, b, hb => by subst e; cases hb
 | .sl xs, u, F, ⟨e, sz, us, F', h1, h2, h3, h4⟩, b, hb => by
  subst h4
  rcases List.mem_append.1 hb with hb | hb
  ·exact (h2.lt b (Z4f.1 hb)).2
  ·exact DVE.lt sz xs us F' h3 b hb
 | .undef, _, _, h, _, _ => h.elim
 | .agg _, _, _, h, _, _ => h.elim
 | .tup _, _, _, h, _, _ => h.elim
 | .vptr _, _, _, h, _, _ => h.elim
 | .func _ _, _, _, h, _, _ => h.elim
 | .mp _ _, _, _, h, _, _ => h.elim
 | .slx, _, _, h, _, _ => h.elim
 | .raw _, _, _, h, _, _ => h.elim
 | .nil _, _, _, h, _, _ => h.elim
theorem DVE.lt (sz : Nat) : ∀ (xs : List (List AV)) (us : List Value) (F : List Nat), DVE P w sz xs us F → ∀ b ∈ F, b < w.heap.size
 | [], _, _, ⟨_, e⟩, b, hb => by subst e; cases hb
 | c :: xs, us, F, ⟨us1, us2, F1, F2, h1, h2, h3, h4, h5⟩, b, hb => by
  subst h2
  rcases List.mem_append.1 hb with hb | hb
  ·exact DVL.lt c us1 F1 h4 b hb
  ·exact DVE.lt sz xs us2 F2 h5 b hb
theorem DVL.lt : ∀ (cs : List AV) (us : List Value) (F : List Nat), DVL P w cs us F → ∀ b ∈ F, b < w.heap.size
 | [], _, _, ⟨_, e⟩, b, hb => by subst e; cases hb
 | c :: cs, us, F, ⟨u, r, F1, F2, h1, h2, h3, h4⟩, b, hb => by
  subst h2
  rcases List.mem_append.1 hb with hb | hb
  ·exact DV.lt c u F1 h3 b hb
  ·exact DVL.lt cs r F2 h4 b hb
end
theorem DVL.length : ∀ {cs : List AV} {us : List Value} {F : List Nat}, DVL P w cs us F → us.length = cs.length
 | [], _, _, ⟨e, _⟩ => by subst e; rfl
 | c :: cs, us, F, ⟨u, r, F1, F2, h1, h2, h3, h4⟩ => by subst h1; simp [DVL.length h4]
theorem DVL.append : ∀ {cs ds : List AV} {us vs : List Value} {F F' : List Nat}, DVL P w cs us F → DVL P w ds vs F' → DVL P w (cs ++ ds) (us ++ vs) (F ++ F')
 | [], _, _, _, _, _, ⟨e1, e2⟩, q => by subst e1; subst e2; exact q
 | c :: cs, _, _, _, _, _, ⟨u, r, F1, F2, h1, h2, h3, h4⟩, q => by
  subst h1; subst h2
  exact ⟨u, _, F1, _, rfl, by rw [List.append_assoc], h3, DVL.append h4 q⟩
theorem DVL.split : ∀ {cs ds : List AV} {us : List Value} {F : List Nat}, DVL P w (cs ++ ds) us F → ∃ us1 us2 F1 F2, us = us1 ++ us2 ∧ F = F1 ++ F2 ∧ DVL P w cs us1 F1 ∧ DVL P w ds us2 F2
 | [], ds, us, F, h => ⟨[], us, [], F, rfl, rfl, ⟨rfl, rfl⟩, h⟩
 | c :: cs, ds, us, F, ⟨u, r, F1, F2, h1, h2, h3, h4⟩ => by
  obtain ⟨us1, us2, G1, G2, e1, e2, h5, h6⟩ := DVL.split h4
  subst h1; subst h2; subst e1; subst e2
  exact ⟨u :: us1, us2, F1 ++ G1, G2, rfl, by rw [List.append_assoc], ⟨u, us1, F1, G1, rfl, rfl, h3, h5⟩, h6⟩
theorem Zdt {sz : Nat} : ∀ {xs : List (List AV)} {us : List Value} {F : List Nat}, DVE P w sz xs us F ↔ (∀ c ∈ xs, c.length = sz) ∧ DVL P w xs.flatten us F
 | [], us, F => ⟨fun h => ⟨by simp, h⟩, fun h => h.2⟩
 | c :: xs, us, F => by
  constructor
  ·rintro ⟨us1, us2, F1, F2, h1, h2, h3, h4, h5⟩
   obtain ⟨h6, h7⟩ := Zdt.1 h5
   subst h1; subst h2
   exact ⟨fun d hd => (List.mem_cons.1 hd).elim (fun e => e ▸ h3) (h6 d), by rw [List.flatten_cons]; exact h4.append h7⟩
  ·rintro ⟨h1, h2⟩
   rw [List.flatten_cons] at h2
   obtain ⟨us1, us2, F1, F2, e1, e2, h3, h4⟩ := h2.split
   exact ⟨us1, us2, F1, F2, e1, e2, h1 c (by simp), h3, Zdt.2 ⟨fun d hd => h1 d (by simp [hd]), h4⟩⟩
theorem Z4u {w : World} {b : Nat} {us : Array Value} {e : TypeId} {z : Nat × Nat} (h : w.heap[b]? = some (.cells us e z)) (j : Nat) : w.cell? ⟨b, j, none⟩ = us[j]? := by
 simp [World.cell?, h]
theorem Zgi {X X' : Gh} (hE : Ext X w X' w') {b : Nat} : ∀ (cs : List AV) (vs : List Value) (o : Nat), RelL X w cs vs → (∀ j u, vs[j]? = some u → w'.cell? ⟨b, o + j, none⟩ = some u) →
  (∀ j, j < cs.length → okc X' b (o + j)) → RelC X' w' b o cs
 | [], _, _, _, _, _ => trivial
 | c :: cs, _, o, ⟨u, r, e, h1, h2⟩, hc, hk => by
  subst e
  refine ⟨⟨u, hc 0 u rfl, hk 0 (by simp), Rel.mono hE _ _ h1⟩, Zgi hE cs r (o + 1) h2 (fun j v hj => ?_) (fun j hj => ?_)⟩
  ·have := hc (j + 1) v (by simpa using hj)
   rwa [show o + (j + 1) = o + 1 + j by omega] at this
  ·have := hk (j + 1) (by simpa using hj)
   rwa [show o + (j + 1) = o + 1 + j by omega] at this
theorem Zuy {X X' : Gh} (hE : Ext X w X' w') {b sz : Nat} : ∀ (rows : List (List AV)) (vs : List Value) (o : Nat), (∀ c ∈ rows, c.length = sz) → RelL X w rows.flatten vs →
  (∀ j u, vs[j]? = some u → w'.cell? ⟨b, o + j, none⟩ = some u) → (∀ j, j < rows.length * sz → okc X' b (o + j)) → RelE X' w' sz b o rows
 | [], _, _, _, _, _, _ => trivial
 | c :: rows, vs, o, hl, hr, hc, hk => by
  have hc1 : c.length = sz := hl c (by simp)
  have hlen : (c :: rows).length * sz = sz + rows.length * sz := by simp [Nat.add_mul]; omega
  rw [hlen] at hk
  rw [List.flatten_cons] at hr
  have h1 := RelL.take c.length hr
  rw [List.take_left] at h1
  have h2 := RelL.drop c.length hr
  rw [List.drop_left] at h2
  rw [hc1] at h1 h2
  refine ⟨hc1, Zgi hE c _ o h1 (fun j u hj => hc j u ?_) (fun j hj => hk j (by omega)), Zuy hE rows _ (o + sz) (fun c' h' => hl c' (by simp [h'])) h2 (fun j u hj => ?_) (fun j hj => ?_)⟩
  ·rw [List.getElem?_take] at hj
   split at hj
   ·exact hj
   ·cases hj
  ·rw [List.getElem?_drop] at hj
   have := hc (sz + j) u hj
   rwa [← Nat.add_assoc] at this
  ·have := hk (sz + j) (by omega)
   rwa [← Nat.add_assoc] at this
theorem add_lit (b o j : Nat) : (⟨b, o, none⟩ : Addr).add j = ⟨b, o + j, none⟩ := by
 unfold Addr.add; split <;> simp_all
theorem Z9u {X : Gh} {e : TypeId} {sz : Nat} {u : Value} {xs : List (List AV)} {us : List Value} (h : w.ownsRow 0 e sz u xs.length us) (hl : ∀ c ∈ xs, c.length = sz) (hr : RelL X w xs.flatten us)
  (hX : ∀ b, u.ownBlock = some b → ∀ j, j < xs.length * sz → okc X b j) : Rel X w (.sl xs) u := by
 rcases h.2 with ⟨rfl, h2⟩ | ⟨g, cap, cur, rfl, h1, h2, h3, h4, h5, h6⟩
 ·exact ⟨none, 0, 0, rfl, h2.symm, Nat.le_refl _, .inl (List.eq_nil_of_length_eq_zero h2)⟩
 ·refine ⟨_, _, _, rfl, rfl, h3, .inr ⟨g, 0, sz, rfl, ?_⟩⟩
  refine Zuy (X := X) (Ext.refl _ _) xs us 0 hl hr (fun j v hj => ?_) (fun j hj => ?_)
  ·have := h.cells (g := g) rfl j v hj
   rwa [add_lit] at this
  ·rw [Nat.zero_add]; exact hX g rfl j hj
mutual
theorem DV.rel {X : Gh} : ∀ (v : AV) (u : Value) (F : List Nat), DV P w v u F → (∀ b ∈ F, X b = none) → Rel X w v u
 | .int _ _, _, _, ⟨h, _⟩, _ => h
 | .bool _, _, _, ⟨h, _⟩, _ => h
 | .str _, _, _, ⟨h, _⟩, _ => h
 | .sl xs, u, F, ⟨e, sz, us, F', h1, h2, h3, h4⟩, hX => by
  subst h4
  refine Z9u h2 (Zdt.1 h3).1 (DVE.rel sz xs us F' h3 (fun b hb => hX b (by simp [hb]))) (fun b hb j hj => ?_)
  simp [okc, hX b (by simp [Z4f, hb])]
 | .undef, _, _, h, _ => h.elim
 | .agg _, _, _, h, _ => h.elim
 | .tup _, _, _, h, _ => h.elim
 | .vptr _, _, _, h, _ => h.elim
 | .func _ _, _, _, h, _ => h.elim
 | .mp _ _, _, _, h, _ => h.elim
 | .slx, _, _, h, _ => h.elim
 | .raw _, _, _, h, _ => h.elim
 | .nil _, _, _, h, _ => h.elim
theorem DVE.rel {X : Gh} (sz : Nat) : ∀ (xs : List (List AV)) (us : List Value) (F : List Nat), DVE P w sz xs us F → (∀ b ∈ F, X b = none) → RelL X w xs.flatten us
 | [], _, _, h, _ => h.1
 | c :: xs, us, F, ⟨us1, us2, F1, F2, h1, h2, h3, h4, h5⟩, hX => by
  subst h2; subst h1
  rw [List.flatten_cons]
  exact (DVL.rel c us1 F1 h4 (fun b hb => hX b (by simp [hb]))).append (DVE.rel sz xs us2 F2 h5 (fun b hb => hX b (by simp [hb])))
theorem DVL.rel {X : Gh} : ∀ (cs : List AV) (us : List Value) (F : List Nat), DVL P w cs us F → (∀ b ∈ F, X b = none) → RelL X w cs us
 | [], _, _, h, _ => h.1
 | c :: cs, us, F, ⟨u, r, F1, F2, h1, h2, h3, h4⟩, hX => by
  subst h2
  exact ⟨u, r, h1, DV.rel c u F1 h3 (fun b hb => hX b (by simp [hb])), DVL.rel cs r F2 h4 (fun b hb => hX b (by simp [hb]))⟩
end
structure Gho where
 X : Gh
 bx : Nat → Nat
 lab : Nat → Option LP
 pv : OP → Value
def At (w : World) (lab : Nat → Option LP) (p : OP) : Value → Path → Value → Prop
 | v, [], u => u = v
 | v, (i, sz, o) :: π, u => ∃ b len cap v', v = .slice (some ⟨b, 0, none⟩) len cap ∧ lab b = some (.own p) ∧ i < len ∧ w.cell? ⟨b, i * sz + o, none⟩ = some v' ∧ At w lab p v' π u
def anyT : TypeId := 1000000007
def Rs (P : Program) (X : Gh) (w : World) : OE → Value → List Nat → Prop
 | .app e, u, F => ∃ sz n us, Z4x P e = some sz ∧ w.ownsRow 0 e sz u n us ∧ F = blks u ∧ ∀ b ∈ F, X b = some (n * sz)
 | .ex e dp xs, u, F => ∃ e' sz us F', (e' = e ∨ e = anyT) ∧ Z4x P e' = some sz ∧ w.ownsRow 0 e' sz u xs.length us ∧ (∀ c ∈ xs, c.length = sz) ∧ (match dp with | true => DVL P w xs.flatten us F' | false => F' = [] ∧ RelL X w xs.flatten us) ∧
   F = blks u ++ F' ∧ F.Nodup ∧ ∀ b ∈ F, X b = some 0
 | _, _, _ => False
def Own (P : Program) (G : Gho) (w : World) (p : OP) (oe : OE) (u : Value) : Prop :=
 match oe with
 | .al q π => At w G.lab q (G.pv q) π u ∧ ∃ A l k, u = .slice A l k
 | .sb q π lo sz n => (∃ A cap', u = .slice A n cap') ∧ (n = 0 ∨ ∃ b len cap cap', At w G.lab q (G.pv q) π (.slice (some ⟨b, 0, none⟩) len cap) ∧ G.lab b = some (.own q) ∧ lo + n ≤ len ∧ u = .slice (some ⟨b, lo * sz, none⟩) n cap')
 | oe => G.pv p = u ∧ ∃ F, Rs P G.X w oe u F ∧ ∀ b ∈ F, G.lab b = some (.own p)
def RelS (G : Gho) (w : World) : SV → Value → Prop
 | .v x, u => Rel G.X w x u
 | .ptr d off, u => u = .pointer (some ⟨G.bx d, off, none⟩)
 | .el p π i sz off, u => ∃ b len cap, At w G.lab p (G.pv p) π (.slice (some ⟨b, 0, none⟩) len cap) ∧ G.lab b = some (.own p) ∧ i < len ∧ u = .pointer (some ⟨b, i * sz + off, none⟩)
 | .mp d, u => u = .map (some (G.bx d))
structure Fr (Fin : Nat → Prop) (w w' : World) : Prop where
 os : w'.os = w.os
 tape : w'.tape = w.tape
 output : w'.output = w.output
 size : w.heap.size ≤ w'.heap.size
 block : ∀ b, b < w.heap.size → ¬ Fin b → w'.heap[b]? = w.heap[b]?
theorem Fr.refl (Fin : Nat → Prop) (w : World) : Fr Fin w w := ⟨rfl, rfl, rfl, Nat.le_refl _, fun _ _ _ => rfl⟩
def tab10 : String := "internal/strconv.uint64pow10"
def GT (P : Program) (w : World) (Z : Nat → Prop) : Prop :=
 ∀ g, P.globalNamed tab10 = some g → g < w.heap.size ∧ ¬ Z g ∧ Lib.TabIs P w tab10 .u64 Lib.pow10Tab
theorem GT.on {P : Program} {w w' : World} {Z Z' : Nat → Prop} (h : GT P w Z) (hf : Fr Z w w') (hz : ∀ b, b < w.heap.size → Z' b → Z b) : GT P w' Z' := by
 intro g hg
 obtain ⟨h1, h2, h3⟩ := h g hg
 refine ⟨Nat.lt_of_lt_of_le h1 hf.size, fun hb => h2 (hz g h1 hb), ?_⟩
 unfold Lib.TabIs World.var? at *
 rw [hg] at h3 ⊢
 simp only [Option.bind_some] at h3 ⊢
 rw [hf.block g h1 h2]
 exact h3
theorem GT.none {P : Program} {w : World} {Z : Nat → Prop} (h : P.globalNamed tab10 = Option.none) : GT P w Z := fun g hg => by rw [h] at hg; cases hg
structure Env where
 P : Program
 w0 : World
 X0 : Gh
 Fin : Nat → Prop
 pv0 : Nat → Nat → Value
 pb : Nat → Nat
 n : Nat
 gt : GT P w0 Fin
structure BoxOk (P : Program) (G : Gho) (w : World) (d : Nat) (cs : List AV) (own : OwnL) (us : Array Value) : Prop where
 rel : RelL G.X w cs us.toList
 own : ∀ j oe, (j, oe) ∈ own → ∃ u, us[j]? = some u ∧ Own P G w (.b d j) oe u
def BXok (P : Program) (G : Gho) (w : World) (d : Nat) : BX → Prop
 | .cells cs own => ∃ us e, w.heap[G.bx d]? = some (.cells us e (0, 0)) ∧ BoxOk P G w d cs own us
 | .map ks vs => ∃ es k, w.heap[G.bx d]? = some (.map es k) ∧ RelL G.X w ks (es.toList.map MapEntry.key) ∧ RelL G.X w vs (es.toList.map MapEntry.val)
 | .ref q => ∃ e, w.heap[G.bx d]? = some (.cells #[.map (some (G.bx q))] e (0, 0))
 | .part _ cs => ∃ us e, w.heap[G.bx d]? = some (.cells us e (0, 0)) ∧ RelL G.X w cs us.toList
structure Inv (E : Env) (L : Look) (a : Act) (w : World) (G : Gho) : Prop where
 size : a.tmps.size = E.n
 dfr : a.defers = []
 fr : Fr E.Fin E.w0 w
 old : ∀ b, b < E.w0.heap.size → ¬ E.Fin b → G.X b = E.X0 b
 new : ∀ b, w.heap.size ≤ b → G.X b = none ∧ G.lab b = none
 may : ∀ b p, G.lab b = some p → E.w0.heap.size ≤ b ∨ E.Fin b
 pin : (∀ i j, G.pv (.a i j) = E.pv0 i j) ∧ E.n ≤ 1000000 ∧ ∀ d, 1000000 ≤ d → G.bx d = E.pb d
 tm : ∀ s sv own, L.t s = some (sv, own) → s < E.n ∧ RelS G w sv (a.tmps.getD s undef) ∧ ∀ j oe, (j, oe) ∈ own → ∃ u, (Value.flat (a.tmps.getD s undef))[j]? = some u ∧ Own E.P G w (.t s j) oe u
 bo : ∀ d x, L.b d = some x → G.X (G.bx d) = some x.lim ∧ G.lab (G.bx d) = some (.box d) ∧ BXok E.P G w d x
 gr : ∀ i own, L.g i = some own → ∀ j oe, (j, oe) ∈ own → Own E.P G w (.a i j) oe (E.pv0 i j)
def SR (E : Env) (L : Look) (a : Act) (w : World) : Prop := ∃ G, Inv E L a w G
end Go.Bv

namespace Go.Bv
open Go.RowKit
variable {E : Env} {P : Program} {n : Nat} {L L' : Look} {a : Act} {w w' : World} {G G' : Gho}
def okE (D : LP → Prop) (p : OP) : OE → Prop
 | .al q π => pinB q π = true ∨ ¬ D (.own q)
 | .sb q _ _ _ _ => ¬ D (.own q)
 | _ => ¬ D (.own p)
def okS (D : LP → Prop) : SV → Prop
 | .v _ => True
 | .ptr d _ => ¬ D (.ptr d)
 | .el p _ _ _ _ => ¬ D (.own p)
 | .mp d => ¬ D (.ptr d)
def okB (D : LP → Prop) (d : Nat) : BX → BX → Prop
 | .cells cs own, .cells cs' own' => cs = cs' ∧ ∀ j oe, (j, oe) ∈ own → (j, oe) ∈ own' ∧ okE D (.b d j) oe
 | .map ks vs, .map ks' vs' => ks = ks' ∧ vs = vs'
 | .ref q, .ref q' => q = q' ∧ ¬ D (.ptr q)
 | .part m cs, .part m' cs' => m = m' ∧ cs = cs'
 | _, _ => False
structure Sub (D : LP → Prop) (L' L : Look) : Prop where
 t : ∀ s sv own, L'.t s = some (sv, own) → ∃ own0, L.t s = some (sv, own0) ∧ okS D sv ∧ ∀ j oe, (j, oe) ∈ own → (j, oe) ∈ own0 ∧ okE D (.t s j) oe
 b : ∀ d x, L'.b d = some x → ¬ (D (.box d) ∨ D (.ptr d)) ∧ ∃ y, L.b d = some y ∧ okB D d x y
 g : ∀ i own, L'.g i = some own → ∃ own0, L.g i = some own0 ∧ ∀ j oe, (j, oe) ∈ own → (j, oe) ∈ own0 ∧ okE D (.a i j) oe
structure Stp (D : LP → Prop) (w w' : World) (G G' : Gho) : Prop where
 os : w'.os = w.os
 tape : w'.tape = w.tape
 output : w'.output = w.output
 size : w.heap.size ≤ w'.heap.size
 same : ∀ b, b < w.heap.size → (∀ p, G.lab b = some p → ¬ D p) → w'.heap[b]? = w.heap[b]? ∧ G'.X b = G.X b ∧ G'.lab b = G.lab b
 ext : Ext G.X w G'.X w'
 was : ∀ b, w.heap.size ≤ b → G.lab b = none
 new : ∀ b, w'.heap.size ≤ b → G'.X b = none ∧ G'.lab b = none
 may : ∀ b p, G'.lab b = some p → (∃ q, G.lab b = some q) ∨ w.heap.size ≤ b
 bx : ∀ d, ¬ D (.ptr d) → G'.bx d = G.bx d
 pv : ∀ p, ¬ D (.own p) → G'.pv p = G.pv p
 pin : (∀ i j, G'.pv (.a i j) = G.pv (.a i j)) ∧ ∀ d, 1000000 ≤ d → G'.bx d = G.bx d
theorem Zbs {b : Nat} (h : w'.heap[b]? = w.heap[b]?) (o : Nat) : w'.cell? ⟨b, o, none⟩ = w.cell? ⟨b, o, none⟩ := World.cell?_of_block (w := w) (a := ⟨b, o, none⟩) h
theorem Stp.at_ {D : LP → Prop} (h : Stp D w w' G G') {q : OP} (hq : ¬ D (.own q)) : ∀ {π : Path} {v u : Value}, At w G.lab q v π u → At w' G'.lab q v π u
 | [], v, u, e => e
 | (i, sz, o) :: π, v, u, ⟨b, len, cap, v', h1, h2, h3, h4, h5⟩ => by
  have hlt : b < w.heap.size := World.block_lt_of_cell? w ⟨b, i * sz + o, none⟩ h4
  obtain ⟨s1, s2, s3⟩ := h.same b hlt (fun p hp => by rw [h2] at hp; cases hp; exact hq)
  exact ⟨b, len, cap, v', h1, s3.trans h2, h3, (Zbs s1 _).trans h4, h.at_ hq h5⟩
theorem Rs.lt {X : Gh} {oe : OE} {u : Value} {F : List Nat} (h : Rs P X w oe u F) : ∀ b ∈ F, b < w.heap.size := by
 intro b hb
 cases oe with
 | app e =>
  obtain ⟨sz, n, us, h1, h2, rfl, h4⟩ := h
  exact (h2.lt b (Z4f.1 hb)).2
 | ex e dp xs =>
  obtain ⟨e', sz, us, F', h0, h1, h2, h3, h4, rfl, h6, h7⟩ := h
  rcases List.mem_append.1 hb with hb | hb
  ·exact (h2.lt b (Z4f.1 hb)).2
  ·cases dp with
   | true => exact DVL.lt _ _ _ h4 b hb
   | false => obtain ⟨rfl, _⟩ := h4; cases hb
 | al q π => exact h.elim
 | sb q π lo sz n => exact h.elim
theorem Rs.stay {X X' : Gh} {oe : OE} {u : Value} {F : List Nat} (h : Rs P X w oe u F) (hs : ∀ b ∈ F, w'.heap[b]? = w.heap[b]? ∧ X' b = X b) (hE : Ext X w X' w') : Rs P X' w' oe u F := by
 cases oe with
 | app e =>
  obtain ⟨sz, n, us, h1, h2, rfl, h4⟩ := h
  exact ⟨sz, n, us, h1, Zaq h2 (fun b hb => (hs b hb).1), rfl, fun b hb => (hs b hb).2.trans (h4 b hb)⟩
 | ex e dp xs =>
  obtain ⟨e', sz, us, F', h0, h1, h2, h3, h4, rfl, h6, h7⟩ := h
  refine ⟨e', sz, us, F', h0, h1, Zaq h2 (fun b hb => (hs b (by simp [hb])).1), h3, ?_, rfl, h6, fun b hb => (hs b hb).2.trans (h7 b hb)⟩
  cases dp with
  | true => exact DVL.stay _ _ _ h4 (fun b hb => (hs b (by simp [hb])).1)
  | false => exact ⟨h4.1, RelL.mono hE _ _ h4.2⟩
 | al q π => exact h.elim
 | sb q π lo sz n => exact h.elim
theorem Zmn {X : Gh} {oe : OE} {u : Value} {F : List Nat} (h : Rs P X w oe u F) : ∃ A l k, u = .slice A l k := by
 have key : ∀ {e : TypeId} {sz n : Nat} {us : List Value}, w.ownsRow 0 e sz u n us → ∃ A l k, u = .slice A l k := by
  intro e sz n us h
  rcases h.2 with ⟨rfl, _⟩ | ⟨g, cap, cur, rfl, _⟩
  ·exact ⟨_, _, _, rfl⟩
  ·exact ⟨_, _, _, rfl⟩
 cases oe with
 | app e => obtain ⟨sz, n, us, h1, h2, _⟩ := h; exact key h2
 | ex e dp xs => obtain ⟨e', sz, us, F', h0, h1, h2, _⟩ := h; exact key h2
 | al q π => exact h.elim
 | sb q π lo sz n => exact h.elim
theorem Z55 {p : OP} {oe : OE} {u : Value} (h : Own P G w p oe u) (hw : oe.owner = true) : ∃ A l k, u = .slice A l k := by
 cases oe with
 | app e => obtain ⟨_, F, h, _⟩ := h; exact Zmn h
 | ex e dp xs => obtain ⟨_, F, h, _⟩ := h; exact Zmn h
 | al q π => cases hw
 | sb q π lo sz n => cases hw
theorem Stp.own {D : LP → Prop} (h : Stp D w w' G G') {p : OP} {oe : OE} {u : Value} (hk : okE D p oe) (ho : Own P G w p oe u) : Own P G' w' p oe u := by
 have key : ∀ oe, (∀ q π, oe ≠ .al q π) → (∀ q π lo sz n, oe ≠ .sb q π lo sz n) → ¬ D (.own p) → (G.pv p = u ∧ ∃ F, Rs P G.X w oe u F ∧ ∀ b ∈ F, G.lab b = some (.own p)) →
   (G'.pv p = u ∧ ∃ F, Rs P G'.X w' oe u F ∧ ∀ b ∈ F, G'.lab b = some (.own p)) := by
  rintro oe - - hD ⟨h1, F, h2, h3⟩
  have hs : ∀ b ∈ F, w'.heap[b]? = w.heap[b]? ∧ G'.X b = G.X b ∧ G'.lab b = G.lab b := fun b hb =>
   h.same b (h2.lt b hb) (fun q hq => by rw [h3 b hb] at hq; cases hq; exact hD)
  exact ⟨(h.pv p hD).trans h1, F, h2.stay (fun b hb => ⟨(hs b hb).1, (hs b hb).2.1⟩) h.ext, fun b hb => (hs b hb).2.2.trans (h3 b hb)⟩
 cases oe with
 | al q π =>
  refine ⟨?_, ho.2⟩
  rcases hk with hk | hk
  ·unfold pinB at hk
   split at hk
   ·rw [h.pin.1]; exact ho.1
   ·cases hk
  ·rw [h.pv q hk]
   exact h.at_ hk ho.1
 | sb q π lo sz n =>
  refine ⟨ho.1, ho.2.imp id ?_⟩
  rintro ⟨b, len, cap, cap', h1, h2, h3⟩
  refine ⟨b, len, cap, cap', ?_, ?_, h3⟩
  ·rw [h.pv q hk]; exact h.at_ hk h1
  ·have hlt : b < w.heap.size := Nat.lt_of_not_le (fun hle => by rw [h.was b hle] at h2; cases h2)
   exact (h.same b hlt (fun p hp => by rw [h2] at hp; cases hp; exact hk)).2.2.trans h2
 | app e => exact key _ (by simp) (by simp) hk ho
 | ex e dp xs => exact key _ (by simp) (by simp) hk ho
theorem Stp.relS {D : LP → Prop} (h : Stp D w w' G G') {sv : SV} {u : Value} (hk : okS D sv) (hr : RelS G w sv u) : RelS G' w' sv u := by
 cases sv with
 | v x => exact Rel.mono h.ext _ _ hr
 | ptr d off => have := h.bx d hk; simpa [RelS, this] using hr
 | mp d => have := h.bx d hk; simpa [RelS, this] using hr
 | el p π i sz off =>
  obtain ⟨b, len, cap, h1, h2, h3⟩ := hr
  refine ⟨b, len, cap, ?_, ?_, h3⟩
  ·rw [h.pv p hk]; exact h.at_ hk h1
  ·have hlt : b < w.heap.size := Nat.lt_of_not_le (fun hle => by rw [h.was b hle] at h2; cases h2)
   exact (h.same b hlt (fun q hq => by rw [h2] at hq; cases hq; exact hk)).2.2.trans h2
theorem Inv.step (h : Inv E L a w G) {D : LP → Prop} (hL : Sub D L' L) (hS : Stp D w w' G G') : Inv E L' a w' G' := by
 refine ⟨h.size, h.dfr, ?_, ?_, hS.new, ?_, ⟨fun i j => (hS.pin.1 i j).trans (h.pin.1 i j), h.pin.2.1, fun d hd => (hS.pin.2 d hd).trans (h.pin.2.2 d hd)⟩, ?_, ?_, ?_⟩
 ·refine ⟨hS.os.trans h.fr.os, hS.tape.trans h.fr.tape, hS.output.trans h.fr.output, Nat.le_trans h.fr.size hS.size, fun b hb hF => ?_⟩
  refine (hS.same b (Nat.lt_of_lt_of_le hb h.fr.size) (fun p hp => ?_)).1.trans (h.fr.block b hb hF)
  rcases h.may b p hp with h1 | h1
  ·omega
  ·exact absurd h1 hF
 ·intro b hb hF
  refine (hS.same b (Nat.lt_of_lt_of_le hb h.fr.size) (fun p hp => ?_)).2.1.trans (h.old b hb hF)
  rcases h.may b p hp with h1 | h1
  ·omega
  ·exact absurd h1 hF
 ·intro b p hp
  rcases hS.may b p hp with ⟨q, hq⟩ | h1
  ·exact h.may b q hq
  ·exact .inl (Nat.le_trans h.fr.size h1)
 ·intro s sv own hs
  obtain ⟨own0, h1, h2, h3⟩ := hL.t s sv own hs
  obtain ⟨h4, h5, h6⟩ := h.tm s sv own0 h1
  refine ⟨h4, hS.relS h2 h5, fun j oe hj => ?_⟩
  obtain ⟨u, hu, ho⟩ := h6 j oe (h3 j oe hj).1
  exact ⟨u, hu, hS.own (h3 j oe hj).2 ho⟩
 ·intro d x hd
  obtain ⟨hD, y, h1, h2⟩ := hL.b d x hd
  obtain ⟨h3, h4, h5⟩ := h.bo d y h1
  have hlt : G.bx d < w.heap.size := Nat.lt_of_not_le (fun hle => by rw [hS.was _ hle] at h4; cases h4)
  obtain ⟨s1, s2, s3⟩ := hS.same (G.bx d) hlt (fun q hq => by rw [h4] at hq; cases hq; exact fun h => hD (.inl h))
  have hbx := hS.bx d (fun h => hD (.inr h))
  have hl : y.lim = x.lim := by
   cases x <;> cases y <;> first | rfl | exact h2.elim | (obtain ⟨rfl, _⟩ := h2; rfl)
  refine ⟨by rw [hbx, s2, h3, hl], by rw [hbx, s3]; exact h4, ?_⟩
  cases x with
  | cells cs own =>
   cases y with
   | cells cs' own' =>
    obtain ⟨rfl, h2⟩ := h2
    obtain ⟨us, e, h6, h7⟩ := h5
    refine ⟨us, e, by rw [hbx, s1]; exact h6, RelL.mono hS.ext _ _ h7.rel, fun j oe hj => ?_⟩
    obtain ⟨u, hu, ho⟩ := h7.own j oe (h2 j oe hj).1
    exact ⟨u, hu, hS.own (h2 j oe hj).2 ho⟩
   | _ => exact h2.elim
  | map ks vs =>
   cases y with
   | map ks' vs' =>
    obtain ⟨rfl, rfl⟩ := h2
    obtain ⟨es, k, h6, h7, h8⟩ := h5
    exact ⟨es, k, by rw [hbx, s1]; exact h6, RelL.mono hS.ext _ _ h7, RelL.mono hS.ext _ _ h8⟩
   | _ => exact h2.elim
  | ref q =>
   cases y with
   | ref q' =>
    obtain ⟨rfl, h2⟩ := h2
    obtain ⟨e, h6⟩ := h5
    exact ⟨e, by rw [hbx, s1, hS.bx q h2]; exact h6⟩
   | _ => exact h2.elim
  | part m cs =>
   cases y with
   | part m' cs' =>
    obtain ⟨rfl, rfl⟩ := h2
    obtain ⟨us, e, h6, h7⟩ := h5
    exact ⟨us, e, by rw [hbx, s1]; exact h6, RelL.mono hS.ext _ _ h7⟩
   | _ => exact h2.elim
 ·intro i own hi j oe hj
  obtain ⟨own0, h1, h2⟩ := hL.g i own hi
  exact hS.own (h2 j oe hj).2 (h.gr i own0 h1 j oe (h2 j oe hj).1)
theorem Zy6 (a : Act) (d s : Nat) (u : Value) (hd : d < a.tmps.size) : (a.put (some d) u).tmps.getD s undef = if s = d then u else a.tmps.getD s undef := by
 simp only [Act.put, Array.getD_eq_getD_getElem?, Array.getElem?_setIfInBounds]
 by_cases h : d = s
 ·subst h; simp [hd]
 ·rw [if_neg h, if_neg (fun e => h e.symm)]
theorem Inv.setT (h : Inv E L a w G) {d : Nat} {sv : SV} {own : OwnL} {u : Value} (hd : d < E.n) (hs : RelS G w sv u)
  (ho : ∀ j oe, (j, oe) ∈ own → ∃ c, (Value.flat u)[j]? = some c ∧ Own E.P G w (.t d j) oe c) : Inv E (L.upd (.t d (sv, own))) (a.put (some d) u) w G := by
 have hsz : d < a.tmps.size := by rw [h.size]; exact hd
 refine ⟨by simp [Act.put, h.size], h.dfr, h.fr, h.old, h.new, h.may, h.pin, ?_, h.bo, h.gr⟩
 intro s sv' own' hs'
 rw [Zy6 a d s u hsz]
 by_cases e : s = d
 ·subst e
  simp only [Look.upd, if_pos] at hs'
  cases hs'
  rw [if_pos rfl]
  exact ⟨hd, hs, ho⟩
 ·simp only [Look.upd, if_neg e] at hs'
  rw [if_neg e]
  exact h.tm s sv' own' hs'
theorem Inv.setT' (h : Inv E L a w G) {d : Nat} {sv : SV} {own : OwnL} (hd : d < E.n) (hs : RelS G w sv (a.tmps.getD d undef))
  (ho : ∀ j oe, (j, oe) ∈ own → ∃ c, (Value.flat (a.tmps.getD d undef))[j]? = some c ∧ Own E.P G w (.t d j) oe c) : Inv E (L.upd (.t d (sv, own))) a w G := by
 refine ⟨h.size, h.dfr, h.fr, h.old, h.new, h.may, h.pin, ?_, h.bo, h.gr⟩
 intro s sv' own' hs'
 by_cases e : s = d
 ·subst e
  simp only [Look.upd, if_pos] at hs'
  cases hs'
  exact ⟨hd, hs, ho⟩
 ·simp only [Look.upd, if_neg e] at hs'
  exact h.tm s sv' own' hs'
theorem Inv.setB (h : Inv E L a w G) {d : Nat} {x : BX} (h1 : G.X (G.bx d) = some x.lim) (h2 : G.lab (G.bx d) = some (.box d)) (h3 : BXok E.P G w d x) : Inv E (L.upd (.b d x)) a w G := by
 refine ⟨h.size, h.dfr, h.fr, h.old, h.new, h.may, h.pin, h.tm, ?_, h.gr⟩
 intro k y hk
 by_cases e : k = d
 ·subst e
  simp only [Look.upd, if_pos] at hk
  cases hk
  exact ⟨h1, h2, h3⟩
 ·simp only [Look.upd, if_neg e] at hk
  exact h.bo k y hk
theorem Inv.setG (h : Inv E L a w G) {i : Nat} {own : OwnL} (ho : ∀ j oe, (j, oe) ∈ own → Own E.P G w (.a i j) oe (E.pv0 i j)) : Inv E (L.upd (.g i own)) a w G := by
 refine ⟨h.size, h.dfr, h.fr, h.old, h.new, h.may, h.pin, h.tm, h.bo, ?_⟩
 intro k y hk
 by_cases e : k = i
 ·subst e
  simp only [Look.upd, if_pos] at hk
  cases hk
  exact ho
 ·simp only [Look.upd, if_neg e] at hk
  exact h.gr k y hk
theorem Inv.less (h : Inv E L a w G) (hL : Sub (fun _ => False) L' L) : Inv E L' a w G :=
 h.step hL ⟨rfl, rfl, rfl, Nat.le_refl _, fun b _ _ => ⟨rfl, rfl, rfl⟩, Ext.refl _ _, fun b hb => (h.new b hb).2, h.new, fun b p hp => .inl ⟨p, hp⟩, fun _ _ => rfl, fun _ _ => rfl, ⟨fun _ _ => rfl, fun _ _ => rfl⟩⟩
end Go.Bv

namespace Go.Bv
open Go.RowKit
inductive AD where
 | v (x : AV) (own : OwnL)
 | io (x : AV) (own : OwnL)
 | q (off m : Nat) (cs : List AV) (own : OwnL)
abbrev AD.p (cs : List AV) (own : OwnL) : AD := .q 0 0 cs own
inductive Fix where
 | un (p : OP)
 | sh (p : OP)
 | ow (p : OP) (dp : Bool)
 | ag (p : OP)
 | so (k : Nat)
 | pl (t : Nat)
structure Hint where
 v : Option AV := none
 c : Option (List (List AV)) := none
 tk : List Nat := []
 io : List Nat := []
 md : Nat := 0
 at' : Option (List (List AV)) := none
 r : Option AD := none
 outs : List (Nat × AD) := []
 ioc : OwnL := []
 fx : List Fix := []
 re : Option AV := none
 op : List Nat := []
 dr : List Nat := []
abbrev Ans := Option (List Upd × List Prop)
def memN (k : Nat) : List Nat → Bool
 | [] => false
 | x :: l => Nat.beq x k || memN k l
def Zmc : OwnL → Bool
 | [] => false
 | (_, x) :: l => x.owner || Zmc l
def ev (L : Look) : Operand → Option (SV × OwnL)
 | .tmp t => L.t t
 | .const v => (Zkm v).map fun a => (.v a, [])
 | .func f => some (.v (.func f []), [])
 | .global _ => none
def evV (L : Look) (x : Operand) : Option AV := match ev L x with | some (.v a, _) => some a | _ => none
def evVs (L : Look) : List Operand → Option (List AV)
 | [] => some []
 | x :: xs => match evV L x, evVs L xs with | some a, some as => some (a :: as) | _, _ => none
def seen (p : Nat → OP) : OwnL → OwnL
 | [] => []
 | (_, .app _) :: l => seen p l
 | (j, .ex _ _ _) :: l => (j, .al (p j) []) :: seen p l
 | (j, x) :: l => (j, x) :: seen p l
def grab (L : Look) (x : Operand) (tk : List Nat) : Option (SV × OwnL × List Upd) :=
 match x with
 | .tmp t => match L.t t with
  | some (sv, own) => match memN t tk with
   | true => match sv with
    | .v y => match Z4l (.t t) own with
     | true => none
     | false => some (.v y, own, [.f (.t t), .t t (.v y, [])])
    | _ => none
   | false => some (sv, seen (.t t) own, [])
  | none => none
 | x => match ev L x with
  | some (sv, _) => some (sv, [], [])
  | none => none
def fresh (d : Nat) : List Upd := [.f (.t d), .t d (.v .undef, [])]
def putT (d : Nat) (sv : SV) (own : OwnL) : Option (List Upd) :=
 match Zmc own with
 | false => some [.t d (sv, own)]
 | true => match sv.refs (.t d) || Z4l (.t d) own with
  | true => none
  | false => some (fresh d ++ [.t d (sv, own)])
def Zcv : Operand → Bool
 | .const (.slice none 0 0) => true
 | _ => false
def AV.solid : AV → Bool
 | .undef | .tup _ => false
 | _ => true
def AV.leaf : AV → Bool
 | .undef | .tup _ | .agg _ => false
 | _ => true
def AV.dry1 : AV → Bool
 | .int _ _ | .bool _ | .str _ | .undef | .slx | .raw _ | .nil _ => true
 | _ => false
def setAll {α : Type} (cs : List α) (off : Nat) : List α → List α
 | [] => cs
 | c :: r => setAll (cs.set off c) (off + 1) r
def one (d : Nat) (v : AV) (h : Hint) (obs : List Prop) : Ans :=
 match h.v with
 | some v' => some ([.t d (.v v', [])], obs ++ [v = v'])
 | none => some ([.t d (.v v, [])], obs)
def binI (op : BinOp) (k : IntKind) (x y : Int) : Option AV :=
 match op with
 | .add => some (.int k (k.wrap (x + y)))
 | .sub => some (.int k (k.wrap (x - y)))
 | .mul => some (.int k (k.wrap (x * y)))
 | .eql => some (.bool (x == y))
 | .neq => some (.bool (x != y))
 | .lss => some (.bool (decide (x < y)))
 | .leq => some (.bool (decide (x ≤ y)))
 | .gtr => some (.bool (decide (x > y)))
 | .geq => some (.bool (decide (x ≥ y)))
 | _ => none
def binS (op : BinOp) (x y : ByteArray) : Option AV :=
 match op with
 | .eql => some (.bool (x.toList == y.toList))
 | .neq => some (.bool (!(x.toList == y.toList)))
 | .lss => some (.bool (Op.bytesLess x.toList y.toList))
 | .leq => some (.bool (Op.bytesLess x.toList y.toList || x.toList == y.toList))
 | .gtr => some (.bool (!(Op.bytesLess x.toList y.toList || x.toList == y.toList)))
 | .geq => some (.bool (!Op.bytesLess x.toList y.toList))
 | _ => none
def bt (s : ByteArray) (i : Int) : Int := (((s[i.toNat]?).getD 0).toNat : Int)
def Z36 (x y : ByteArray) : Prop := ((x.size + y.size : Nat) : Int) ≤ 9223372036854775807
def Zjf (L : Look) : Option Operand → Option (Option Int)
 | none => some none
 | some x => match evV L x with | some (.int _ n) => some (some n) | _ => none
def Zb6 (lo n j : Nat) : Bool := Nat.ble lo j && Nat.blt j (lo + n)
def cutO (lo n : Nat) : OwnL → OwnL
 | [] => []
 | (j, x) :: l => match Zb6 lo n j with | true => (j - lo, x) :: cutO lo n l | false => cutO lo n l
def Zbz (lo n : Nat) : OwnL → OwnL
 | [] => []
 | (j, x) :: l => match Zb6 lo n j with | true => Zbz lo n l | false => (j, x) :: Zbz lo n l
def Ziv (off : Nat) : OwnL → OwnL
 | [] => []
 | (j, x) :: l => (off + j, x) :: Ziv off l
def Zgd (P : Program) (T : TypeId) : OwnL :=
 match (P.info? T).bind (·.zero) with
 | some z => ((Zrn P 8 0 T).filter fun p => match z.cells[p.1]? with | some (.slice none 0 0) => (Z4x P p.2).isSome | _ => false).map fun p => (p.1, .app p.2)
 | none => []
def setO (own : OwnL) (j : Nat) (x : OE) : OwnL :=
 match own with
 | [] => []
 | (k, y) :: l => match Nat.beq k j with | true => (k, x) :: setO l j x | false => (k, y) :: setO l j x
def Z6c (L : Look) : OP → Option OE
 | .t s j => match L.t s with | some (_, own) => lkO own j | none => none
 | .b d j => match L.b d with | some (.cells _ own) => lkO own j | _ => none
 | .a i j => match L.g i with | some own => lkO own j | none => none
def getC : List (List AV) → Path → Option (List (List AV))
 | xs, [] => some xs
 | xs, (i, sz, o) :: π => match xs[i]? with
  | some c => match Nat.beq c.length sz, c[o]? with | true, some (.sl ys) => getC ys π | _, _ => none
  | none => none
def Zg5 (L : Look) (p : OP) (π : Path) (h : Hint) : Option (Bool × List (List AV) × List Prop) :=
 match Z6c L p with
 | some (.ex _ dp xs) => match π with
  | [] => some (dp, xs, [])
  | π => match dp, h.at' with | true, some ys => some (true, ys, [getC xs π = some ys]) | _, _ => none
 | _ => none
inductive SlV where
 | plain (xs : List (List AV))
 | held (p : OP) (π : Path)
 | part (p : OP) (π : Path) (lo sz n : Nat)
def Zd3 (L : Look) (x : Operand) : Option SlV :=
 match x with
 | .tmp t => match L.t t with
  | some (.v (.sl xs), _) => some (.plain xs)
  | some (.v .slx, own) => match lkO own 0 with
   | some (.ex _ _ _) => some (.held (.t t 0) [])
   | some (.al p π) => some (.held p π)
   | some (.sb p π lo sz n) => some (.part p π lo sz n)
   | _ => none
  | _ => none
 | .const (.slice none 0 0) => some (.plain [])
 | _ => none
def Zbr (own : OwnL) : Nat → List AV → Option (List AV)
 | _, [] => some []
 | j, c :: cs => match Zbr own (j + 1) cs with
  | some r => match lkO own j with
   | some (.ex _ true ys) => some (.sl ys :: r)
   | some (.app _) => match c with | .sl [] => some (.sl [] :: r) | _ => none
   | some _ => none
   | none => match c with
    | .int k n => some (.int k n :: r)
    | .bool b => some (.bool b :: r)
    | .str s => some (.str s :: r)
    | _ => none
  | none => none
def Zna (own : OwnL) (cs : List AV) : Option (List AV) := match own.all (fun x => match x.2 with | .app _ => true | _ => false) && cs.all AV.leaf with | true => some cs | false => none
def Zqn : AV → AV | .sl _ => .slx | c => c
def Z129 : AV → AV | .raw _ => .slx | c => c
def Z10k : OwnL → List AV → List AV
 | [], l => l
 | _, l => l.map Z129
def AV.cellsH (o : Bool) (a : AV) : List AV := match o with | true => [a] | false => a.cells
def fitH (o : Bool) (a : AV) (s : Nat) : Bool := match o with | true => Nat.beq s 1 | false => a.solid && Nat.beq a.cells.length s
def obH (o : Bool) (a : AV) : List Prop := match o with | true => [a.leaf = true] | false => []
def Zmi (os : List Nat) : Operand → Bool
 | .tmp t => memN t os
 | _ => false
theorem Zls {a : AV} (h : a.leaf = true) : a.solid = true ∧ a.cells = [a] := by
 cases a <;> first | exact ⟨rfl, rfl⟩ | cases h
theorem Zw0 {o : Bool} {a : AV} {s : Nat} (h : fitH o a s = true) (hob : ∀ p ∈ obH o a, p) : a.solid = true ∧ a.cells.length = s ∧ a.cellsH o = a.cells := by
 cases o with
 | true =>
  obtain ⟨h1, h2⟩ := Zls (hob (a.leaf = true) (List.mem_singleton.2 rfl))
  exact ⟨h1, by rw [h2]; exact (Nat.eq_of_beq_eq_true h).symm, h2.symm⟩
 | false =>
  simp only [fitH, Bool.and_eq_true] at h
  exact ⟨h.1, Nat.eq_of_beq_eq_true h.2, rfl⟩
def fitS (o : Bool) (a : AV) (s : Nat) : Bool := match o with | true => Nat.beq s 1 | false => a.solid && a.cells.all AV.leaf && Nat.beq a.cells.length s
theorem Zov {o : Bool} {a : AV} {s : Nat} (h : fitS o a s = true) (hob : ∀ p ∈ obH o a, p) : a.solid = true ∧ a.cells.all AV.leaf = true ∧ Nat.beq a.cells.length s = true ∧ a.cellsH o = a.cells := by
 cases o with
 | true =>
  have hl : a.leaf = true := hob (a.leaf = true) (List.mem_singleton.2 rfl)
  obtain ⟨h1, h2⟩ := Zls hl
  refine ⟨h1, by rw [h2, List.all_cons, hl]; rfl, ?_, h2.symm⟩
  rw [h2, Nat.eq_of_beq_eq_true h]; rfl
 | false =>
  simp only [fitS, Bool.and_eq_true] at h
  exact ⟨h.1.1, h.1.2, h.2, rfl⟩
end Go.Bv

namespace Go.Bv
open Go.RowKit
variable {E : Env} {P : Program} {n : Nat} {L L' : Look} {a : Act} {w w' : World} {G G' : Gho} {D D' : LP → Prop}
def DR : Ref → LP → Prop
 | .t s, .own (.t k _) => k = s
 | .b d, .own (.b k _) => k = d
 | .bp d, .own (.b k _) => k = d
 | .bp d, .box k => k = d
 | .bp d, .ptr k => k = d
 | .a i, .own (.a k _) => k = i
 | _, _ => False
theorem Zav {r : Ref} {p : OP} (h : DR r (.own p)) : p.inn r = true ∧ ∀ π, hdrR r π = false := by
 cases r <;> cases p <;> first | exact h.elim | (have h' := h; simp only [DR] at h'; subst h'; exact ⟨by simp [OP.inn], fun π => rfl⟩)
def okX (D : LP → Prop) (d : Nat) : BX → Prop
 | .cells _ own => ∀ j oe, (j, oe) ∈ own → okE D (.b d j) oe
 | .map _ _ => True
 | .ref q => ¬ D (.ptr q)
 | .part _ _ => True
structure Av (D : LP → Prop) (L : Look) : Prop where
 t : ∀ s sv own, L.t s = some (sv, own) → okS D sv ∧ ∀ j oe, (j, oe) ∈ own → okE D (.t s j) oe
 b : ∀ d x, L.b d = some x → ¬ (D (.box d) ∨ D (.ptr d)) ∧ okX D d x
 g : ∀ i own, L.g i = some own → ∀ j oe, (j, oe) ∈ own → okE D (.a i j) oe
theorem Av.sub (h : Av D L) : Sub D L L := by
 refine ⟨fun s sv own hs => ⟨own, hs, (h.t s sv own hs).1, fun j oe hj => ⟨hj, (h.t s sv own hs).2 j oe hj⟩⟩, fun d x hd => ⟨(h.b d x hd).1, x, hd, ?_⟩, fun i own hi => ⟨own, hi, fun j oe hj => ⟨hj, h.g i own hi j oe hj⟩⟩⟩
 have := (h.b d x hd).2
 cases x with
 | cells cs own => exact ⟨rfl, fun j oe hj => ⟨hj, this j oe hj⟩⟩
 | map ks vs => exact ⟨rfl, rfl⟩
 | part m cs => exact ⟨rfl, rfl⟩
 | ref q => exact ⟨rfl, this⟩
theorem Inv.step' (h : Inv E L a w G) (hav : Av D L) (hS : Stp D w w' G G') : Inv E L a w' G' := h.step hav.sub hS
theorem okE.or {p : OP} {oe : OE} (h : okE D p oe) (h' : okE D' p oe) : okE (fun q => D q ∨ D' q) p oe := by
 cases oe with
 | al q π => exact h.elim .inl fun h => h'.elim .inl fun h' => .inr fun hq => hq.elim h h'
 | app e => exact fun hq => hq.elim h h'
 | ex e dp xs => exact fun hq => hq.elim h h'
 | sb q π lo sz n => exact fun hq => hq.elim h h'
theorem okS.or {sv : SV} (h : okS D sv) (h' : okS D' sv) : okS (fun q => D q ∨ D' q) sv := by
 cases sv <;> first | trivial | exact fun hq => hq.elim h h'
theorem Av.or (h : Av D L) (h' : Av D' L) : Av (fun q => D q ∨ D' q) L := by
 refine ⟨fun s sv own hs => ⟨(h.t s sv own hs).1.or (h'.t s sv own hs).1, fun j oe hj => ((h.t s sv own hs).2 j oe hj).or ((h'.t s sv own hs).2 j oe hj)⟩, fun d x hd => ⟨fun hq => hq.elim (fun q => q.elim (fun q => (h.b d x hd).1 (.inl q)) (fun q => (h'.b d x hd).1 (.inl q))) (fun q => q.elim (fun q => (h.b d x hd).1 (.inr q)) (fun q => (h'.b d x hd).1 (.inr q))), ?_⟩,
  fun i own hi j oe hj => (h.g i own hi j oe hj).or (h'.g i own hi j oe hj)⟩
 have h1 := (h.b d x hd).2
 have h2 := (h'.b d x hd).2
 cases x with
 | cells cs own => exact fun j oe hj => (h1 j oe hj).or (h2 j oe hj)
 | map ks vs => trivial
 | part m cs => trivial
 | ref q => exact fun hq => hq.elim h1 h2
theorem okE.mono {p : OP} {oe : OE} (h : okE D p oe) (hD : ∀ q, D' q → D q) : okE D' p oe := by
 cases oe with
 | al q π => exact h.imp id fun h hq => h (hD _ hq)
 | app e => exact fun hq => h (hD _ hq)
 | ex e dp xs => exact fun hq => h (hD _ hq)
 | sb q π lo sz n => exact fun hq => h (hD _ hq)
theorem okS.mono {sv : SV} (h : okS D sv) (hD : ∀ q, D' q → D q) : okS D' sv := by
 cases sv <;> first | trivial | exact fun hq => h (hD _ hq)
theorem Av.mono (h : Av D L) (hD : ∀ q, D' q → D q) : Av D' L := by
 refine ⟨fun s sv own hs => ⟨(h.t s sv own hs).1.mono hD, fun j oe hj => ((h.t s sv own hs).2 j oe hj).mono hD⟩, fun d x hd => ⟨fun hq => (h.b d x hd).1 (hq.imp (hD _) (hD _)), ?_⟩, fun i own hi j oe hj => (h.g i own hi j oe hj).mono hD⟩
 have h1 := (h.b d x hd).2
 cases x with
 | cells cs own => exact fun j oe hj => (h1 j oe hj).mono hD
 | map ks vs => trivial
 | part m cs => trivial
 | ref q => exact fun hq => h1 (hD _ hq)
theorem f_t {r : Ref} {s : Nat} {e : SV × OwnL} : (L.upd (.f r)).t s = some e ↔ L.t s = some e ∧ Zfl r e = false := by
 simp only [Look.upd, Option.bind_eq_some_iff, Z112]
 constructor
 ·rintro ⟨x, h1, h2⟩
  split at h2
  ·cases h2
  ·rename_i h3; cases h2; exact ⟨h1, h3⟩
 ·rintro ⟨h1, h2⟩; exact ⟨e, h1, by rw [h2]⟩
theorem f_b {r : Ref} {s : Nat} {e : BX} : (L.upd (.f r)).b s = some e ↔ L.b s = some e ∧ Zi1 r e = false := by
 simp only [Look.upd, Option.bind_eq_some_iff, Z114]
 constructor
 ·rintro ⟨x, h1, h2⟩
  split at h2
  ·cases h2
  ·rename_i h3; cases h2; exact ⟨h1, h3⟩
 ·rintro ⟨h1, h2⟩; exact ⟨e, h1, by rw [h2]⟩
theorem f_g {r : Ref} {s : Nat} {e : OwnL} : (L.upd (.f r)).g s = some e ↔ L.g s = some e ∧ Z4l r e = false := by
 simp only [Look.upd, Option.bind_eq_some_iff, Z113]
 constructor
 ·rintro ⟨x, h1, h2⟩
  split at h2
  ·cases h2
  ·rename_i h3; cases h2; exact ⟨h1, h3⟩
 ·rintro ⟨h1, h2⟩; exact ⟨e, h1, by rw [h2]⟩
theorem Z1i {p : OP} {oe : OE} : okE (fun _ => False) p oe := by
 cases oe with
 | al q π => exact .inr fun h => h
 | app e => exact fun h => h
 | ex e dp xs => exact fun h => h
 | sb q π lo sz n => exact fun h => h
theorem Z7o {sv : SV} : okS (fun _ => False) sv := by cases sv <;> first | trivial | exact fun h => h
theorem Sub.f (r : Ref) (L : Look) : Sub (fun _ => False) (L.upd (.f r)) L := by
 refine ⟨fun s sv own hs => ⟨own, (f_t.1 hs).1, Z7o, fun j oe hj => ⟨hj, Z1i⟩⟩, fun d x hd => ⟨fun h => h.elim id id, x, (f_b.1 hd).1, ?_⟩, fun i own hi => ⟨own, (f_g.1 hi).1, fun j oe hj => ⟨hj, Z1i⟩⟩⟩
 cases x with
 | cells cs own => exact ⟨rfl, fun j oe hj => ⟨hj, Z1i⟩⟩
 | map ks vs => exact ⟨rfl, rfl⟩
 | part m cs => exact ⟨rfl, rfl⟩
 | ref q => exact ⟨rfl, fun h => h⟩
theorem Inv.forget (h : Inv E L a w G) (r : Ref) : Inv E (L.upd (.f r)) a w G := h.less (Sub.f r L)
theorem Av.f (h : Av D L) (r : Ref) : Av D (L.upd (.f r)) :=
 ⟨fun s sv own hs => h.t s sv own (f_t.1 hs).1, fun d x hd => h.b d x (f_b.1 hd).1, fun i own hi => h.g i own (f_g.1 hi).1⟩
theorem Av.setT (h : Av D L) {s : Nat} {sv : SV} {own : OwnL} (h1 : okS D sv) (h2 : ∀ j oe, (j, oe) ∈ own → okE D (.t s j) oe) : Av D (L.upd (.t s (sv, own))) := by
 refine ⟨?_, h.b, h.g⟩
 intro k sv' own' hk
 by_cases e : k = s
 ·subst e; simp only [Look.upd, if_pos] at hk; cases hk; exact ⟨h1, h2⟩
 ·simp only [Look.upd, if_neg e] at hk; exact h.t k sv' own' hk
theorem Av.setB (h : Av D L) {s : Nat} {x : BX} (h1 : ¬ (D (.box s) ∨ D (.ptr s))) (h2 : okX D s x) : Av D (L.upd (.b s x)) := by
 refine ⟨h.t, ?_, h.g⟩
 intro k y hk
 by_cases e : k = s
 ·subst e; simp only [Look.upd, if_pos] at hk; cases hk; exact ⟨h1, h2⟩
 ·simp only [Look.upd, if_neg e] at hk; exact h.b k y hk
theorem Av.setG (h : Av D L) {s : Nat} {x : OwnL} (h2 : ∀ j oe, (j, oe) ∈ x → okE D (.a s j) oe) : Av D (L.upd (.g s x)) := by
 refine ⟨h.t, h.b, ?_⟩
 intro k y hk
 by_cases e : k = s
 ·subst e; simp only [Look.upd, if_pos] at hk; cases hk; exact h2
 ·simp only [Look.upd, if_neg e] at hk; exact h.g k y hk
theorem Zv8 {r : Ref} {p q : OP} {π : Path} (h : OE.refs r (.al q π) = false) (hD : D (.own q) → DR r (.own q)) : okE D p (.al q π) := by
 cases hp : pinB q π with
 | true => exact .inl hp
 | false => refine .inr fun hq => ?_; simp [OE.refs, hp, (Zav (hD hq)).1, (Zav (hD hq)).2] at h
theorem Z6j {r : Ref} {p : OP} {oe : OE} (h : oe.refs r = false) (hp : oe.owner = true → ¬ DR r (.own p)) : okE (DR r) p oe := by
 cases oe with
 | app e => exact hp rfl
 | ex e dp xs => exact hp rfl
 | al q π =>
  cases hp : pinB q π with
  | true => exact .inl hp
  | false => refine .inr fun hq => ?_; simp [OE.refs, hp, (Zav hq).1, (Zav hq).2] at h
 | sb q π lo sz n => intro hq; simp [OE.refs, (Zav hq).1, (Zav hq).2] at h
theorem Z10e {r : Ref} {sv : SV} (h : sv.refs r = false) : okS (DR r) sv := by
 cases sv with
 | v x => trivial
 | ptr d off => intro hq; cases r <;> simp_all [DR, SV.refs]
 | mp d => intro hq; cases r <;> simp_all [DR, SV.refs]
 | el q π i sz off => intro hq; simp [SV.refs, (Zav hq).1, (Zav hq).2] at h
theorem Av.ref {r : Ref} (ht : ∀ s sv own, L.t s = some (sv, own) → Zfl r (sv, own) = false → ∀ j oe, (j, oe) ∈ own → oe.owner = true → ¬ DR r (.own (.t s j)))
  (hb : ∀ d x, L.b d = some x → Zi1 r x = false → ¬ (DR r (.box d) ∨ DR r (.ptr d)) ∧ ∀ cs own, x = .cells cs own → ∀ j oe, (j, oe) ∈ own → oe.owner = true → ¬ DR r (.own (.b d j)))
  (hg : ∀ i own, L.g i = some own → Z4l r own = false → ∀ j oe, (j, oe) ∈ own → oe.owner = true → ¬ DR r (.own (.a i j))) : Av (DR r) (L.upd (.f r)) := by
 refine ⟨?_, ?_, ?_⟩
 ·intro s sv own hs
  obtain ⟨h1, h2⟩ := f_t.1 hs
  have h3 := h2
  simp only [Zfl, Bool.or_eq_false_iff] at h3
  exact ⟨Z10e h3.1, fun j oe hj => Z6j (Zi h3.2 j oe hj) (ht s sv own h1 h2 j oe hj)⟩
 ·intro d x hd
  obtain ⟨h1, h2⟩ := f_b.1 hd
  obtain ⟨h3, h4⟩ := hb d x h1 h2
  refine ⟨h3, ?_⟩
  cases x with
  | map ks vs => trivial
  | part m cs => trivial
  | ref q => intro hq; cases r <;> simp_all [DR, Zi1]
  | cells cs own => exact fun j oe hj => Z6j (Zi h2 j oe hj) (h4 cs own rfl j oe hj)
 ·intro i own hi j oe hj
  obtain ⟨h1, h2⟩ := f_g.1 hi
  exact Z6j (Zi h2 j oe hj) (hg i own h1 h2 j oe hj)
theorem Zge {s : Nat} {e : SV × OwnL} : (L.upd (.t s e)).t s = some e := by simp [Look.upd]
theorem Zfb {s k : Nat} {e : SV × OwnL} (h : k ≠ s) : (L.upd (.t s e)).t k = L.t k := by simp [Look.upd, h]
theorem Av.clear (d : Nat) {y : AV} : Av (DR (.t d)) ((L.upd (.f (.t d))).upd (.t d (.v y, []))) := by
 -- forget first, or set first: the same
 have key : Av (DR (.t d)) ({ L with t := fun k => if k = d then none else L.t k }.upd (.f (.t d))) := by
  refine Av.ref ?_ ?_ ?_
  ·intro s sv own hs _ j oe _ _ hd
   have : s = d := hd
   subst this
   simp at hs
  ·intro k x _ _
   exact ⟨fun h => h.elim id id, fun cs own _ j oe _ _ h => h⟩
  ·intro i own _ _ j oe _ _ h; exact h
 refine ⟨?_, fun k x hk => key.b k x hk, fun i own hi => key.g i own hi⟩
 intro s sv own hs
 by_cases e : s = d
 ·subst e; rw [Zge] at hs; cases hs; exact ⟨trivial, fun j oe hj => by cases hj⟩
 ·rw [Zfb e] at hs
  refine key.t s sv own (f_t.2 ?_)
  obtain ⟨h1, h2⟩ := f_t.1 hs
  exact ⟨by simp [e, h1], h2⟩
theorem Inv.fresh (h : Inv E L a w G) {d : Nat} (hd : d < E.n) : Inv E (L.upds (fresh d)) a w G ∧ Av (DR (.t d)) (L.upds (fresh d)) :=
 ⟨(h.forget (.t d)).setT' hd trivial (fun j oe hj => by cases hj), Av.clear d⟩
theorem Inv.clear (h : Inv E L a w G) {t : Nat} {y : AV} {own : OwnL} (ht : L.t t = some (.v y, own)) : Inv E ((L.upd (.f (.t t))).upd (.t t (.v y, []))) a w G ∧ Av (DR (.t t)) ((L.upd (.f (.t t))).upd (.t t (.v y, []))) :=
 ⟨(h.forget (.t t)).setT' (h.tm t _ _ ht).1 (h.tm t _ _ ht).2.1 (fun j oe hj => by cases hj), Av.clear t⟩
def LP.to (ρ : OP → OP) : LP → LP
 | .box d => .box d
 | .ptr d => .ptr d
 | .arg i j => .arg i j
 | .own p => .own (ρ p)
def Gho.hand (G : Gho) (ρ : OP → OP) (pv' : OP → Value) : Gho := { G with lab := fun b => (G.lab b).map (LP.to ρ), pv := pv' }
theorem Stp.hand (h : Inv E L a w G) {ρ : OP → OP} {pv' : OP → Value} (hρ : ∀ p, ¬ D (.own p) → ρ p = p) (hpv : ∀ p, ¬ D (.own p) → pv' p = G.pv p) (hpin : ∀ i j, pv' (.a i j) = G.pv (.a i j)) : Stp D w w G (G.hand ρ pv') := by
 refine ⟨rfl, rfl, rfl, Nat.le_refl _, ?_, Ext.refl _ _, fun b hb => (h.new b hb).2, ?_, ?_, fun _ _ => rfl, hpv, ⟨hpin, fun _ _ => rfl⟩⟩
 ·intro b _ hb
  refine ⟨rfl, rfl, ?_⟩
  show (G.lab b).map (LP.to ρ) = G.lab b
  cases hl : G.lab b with
  | none => rfl
  | some p =>
   have := hb p hl
   cases p with
   | box d => rfl
   | ptr d => rfl
   | arg i j => rfl
   | own p => simp [LP.to, hρ p this]
 ·intro b hb
  have := h.new b hb
  exact ⟨this.1, by simp [Gho.hand, this.2]⟩
 ·intro b p hp
  simp only [Gho.hand, Option.map_eq_some_iff] at hp
  obtain ⟨q, hq, _⟩ := hp
  exact .inl ⟨q, hq⟩
theorem Own.hand {ρ : OP → OP} {pv' : OP → Value} {p q : OP} {oe : OE} {u : Value} (ho : Own P G w p oe u) (hw : oe.owner = true) (hq : ρ p = q) (hv : pv' q = u) : Own P (G.hand ρ pv') w q oe u := by
 have key : (G.pv p = u ∧ ∃ F, Rs P G.X w oe u F ∧ ∀ b ∈ F, G.lab b = some (.own p)) → ((G.hand ρ pv').pv q = u ∧ ∃ F, Rs P G.X w oe u F ∧ ∀ b ∈ F, (G.hand ρ pv').lab b = some (.own q)) := by
  rintro ⟨_, F, h2, h3⟩
  exact ⟨hv, F, h2, fun b hb => by simp [Gho.hand, h3 b hb, LP.to, hq]⟩
 cases oe with
 | app e => exact key ho
 | ex e dp xs => exact key ho
 | al q π => cases hw
 | sb q π lo sz n => cases hw
theorem Own.al_any {p q : OP} {oe : OE} {u : Value} (h : oe.owner = false) (ho : Own P G w p oe u) : Own P G w q oe u := by
 cases oe with
 | app e => cases h
 | ex e dp xs => cases h
 | al q π => exact ho
 | sb q π lo sz n => exact ho
theorem Own.pv {p : OP} {oe : OE} {u : Value} (ho : Own P G w p oe u) (hw : oe.owner = true) : G.pv p = u := by
 cases oe with
 | app e => exact ho.1
 | ex e dp xs => exact ho.1
 | al q π => cases hw
 | sb q π lo sz n => cases hw
end Go.Bv

namespace Go.Bv
open Go.RowKit
def Zod (P : Program) (ty : TypeId) (x : Operand) (own : OwnL) : OwnL :=
 match Zcv x with
 | true => (match Zl2 P ty with | some e => (match (Z4x P e).isSome with | true => [(0, .app e)] | false => []) | none => [])
 | false => own
def Zy0 (P : Program) (L : Look) (d : Nat) (ty : TypeId) (x : Operand) (h : Hint) : Ans :=
 match grab L x h.tk with
 | some (sv, own, pre) => match putT d sv (Zod P ty x own) with
  | some us => some (pre ++ us, [])
  | none => none
 | none => none
def Zt9 (L : Look) (d : Nat) (x : Operand) : Ans :=
 match grab L x [] with
 | some (sv, own, _) => some ([.t d (sv, own)], [])
 | none => none
def Zvf (P : Program) (d : Nat) (T : TypeId) : Ans :=
 match Zsv P T with
 | some zs => some ([.f (.bp d), .b d (.cells zs (Zgd P T)), .t d (.ptr d 0, [])], [])
 | none => none
def oBox (L : Look) (d : Nat) (x : Operand) (h : Hint) : Ans :=
 match grab L x h.tk with
 | some (.v a, own, pre) => match a.solid && !Z4l (.bp d) own with
  | true => some (pre ++ [.f (.bp d), .b d (.cells a.cells own), .t d (.ptr d 0, [])], [])
  | false => none
 | _ => none
def Zfn (P : Program) : List Field → Option (List (Nat × Nat))
 | [] => some []
 | f :: fs => match Z4x P f.type, Zfn P fs with | some s, some r => some ((f.offset, s) :: r) | _, _ => none
def apart (pre : List Upd) (x : Operand) (d : Nat) (own : OwnL) : Bool :=
 match pre with
 | [] => true
 | _ => match x with | .tmp t => !Z4l (.t t) own && !Nat.beq t d | _ => true
def Zpo (ps : List (Nat × Nat)) (tk os : List Nat) (d : Nat) : Look → List (Nat × Operand) → List AV → OwnL → Option (List AV × OwnL × List Upd × List Prop)
 | _, [], cs, own => some (cs, own, [], [])
 | L, (i, x) :: r, cs, own => match ps[i]?, grab L x tk with
  | some (off, s), some (.v a, o', pre) => match fitH (Zmi os x) a s && Nat.ble (off + s) cs.length && !Z4l (.t d) o' && apart pre x d own with
   | true => match Zpo ps tk os d (L.upds pre) r (setAll cs off (a.cellsH (Zmi os x))) (Zbz off s own ++ Ziv off o') with
    | some (cs', own', pre', ob') => some (cs', own', pre ++ pre', obH (Zmi os x) a ++ ob')
    | none => none
   | false => none
  | _, _ => none
def Zvi : List Nat → List AV → List AV
 | [], zs => zs
 | j :: js, zs => Zvi js (match zs[j]? with | some (.sl []) => zs.set j (.nil false) | _ => zs)
def nilO : List Nat → OwnL → OwnL
 | [], own => own
 | js, own => own.filter fun q => !memN q.1 js
def Zve (P : Program) (L : Look) (d : Nat) (T : TypeId) (parts : List (Nat × Operand)) (h : Hint) : Ans :=
 match Zsv P T, P.underlying T with
 | some zs, some (.struct fs) => match Zfn P fs.toList with
  | some ps => match Zpo ps h.tk h.op d (L.upds (fresh d)) parts (Zvi h.io zs) (nilO h.io (Zgd P T)) with
   | some (cs, own, pre, ob) => some (fresh d ++ pre ++ [.t d (.v (.agg cs), own)], ob)
   | none => none
  | none => none
 | _, _ => none
def Zpt (h : Hint) (xs : List (List AV)) : List (List AV) × List Prop :=
 match h.c with
 | some ys => (ys, [xs = ys])
 | none => (xs, [])
def Zi4 (md : Nat) (e : TypeId) (xs : List (List AV)) : AV × OwnL :=
 match md with
 | 0 => (.sl xs, [(0, .app e)])
 | 1 => (.slx, [(0, .ex e false xs)])
 | _ => (.slx, [(0, .ex e true xs)])
def Zoy (md : Nat) (own : OwnL) (cs : List AV) : Option (List AV) :=
 match md with
 | 0 => Zna own cs
 | 1 => Zna own cs
 | _ => Zbr own 0 cs
def Z10v (L : Look) (x : Operand) (tk : List Nat) : Option (SV × OwnL × List Upd) :=
 match ev L x with
 | some (.ptr k off, _) => match L.b k with
  | some (.part m cs) => some (.v (.vptr ((cs.take m).drop off)), [], [])
  | _ => none
 | _ => grab L x tk
def Zhg (md : Nat) (tk : List Nat) (d s : Nat) : Look → Nat → List (Nat × Operand) → Option (List (List AV) × List Upd)
 | _, _, [] => some ([], [])
 | L, k, (i, x) :: r => match Z10v L x tk with
  | some (.v a, o', pre) => match Nat.beq i k && a.solid && Nat.beq a.cells.length s && apart pre x d [], Zoy md o' a.cells with
   | true, some c => match Zhg md tk d s (L.upds pre) (k + 1) r with
    | some (cs, pre') => some (c :: cs, pre ++ pre')
    | none => none
   | _, _ => none
  | _ => none
def Zeq (P : Program) (L : Look) (d : Nat) (T : TypeId) (len : Nat) (parts : List (Nat × Operand)) (h : Hint) : Ans :=
 match Zl2 P T with
 | some e => match Z4x P e with
  | some s => match Zhg h.md h.tk d s (L.upds (fresh d)) 0 parts with
   | some (as, pre) => match Nat.beq as.length len && Nat.blt 0 s && Nat.ble (len * s) 16777216 && (Zsv P e).isSome with
    | true => match Zpt h as with
     | (xs, ob) => match Zi4 h.md e xs with
      | (v, own) => some (fresh d ++ pre ++ [.t d (.v v, own)], ob)
    | false => none
   | none => none
  | none => none
 | none => none
def Zx2 (p : OP) (π : Path) (i sz off : Nat) : Nat → List AV → OwnL
 | _, [] => []
 | j, .slx :: cs => (j, .al p (π ++ [(i, sz, off + j)])) :: Zx2 p π i sz off (j + 1) cs
 | j, _ :: cs => Zx2 p π i sz off (j + 1) cs
def fitB (ag : Bool) (off s len : Nat) : Bool := Nat.ble (off + s) len && (ag || Nat.beq s 1)
def Zy1 (P : Program) (L : Look) (d : Nat) (T : TypeId) (x : Operand) (h : Hint) : Ans :=
 match Zdi P T, Z4x P T, ev L x with
 | some ag, some s, some (.ptr k off, _) => match L.b k with
  | some (.cells cs own) => match fitB ag off s cs.length, Z7p ag (Z10k (cutO off s own) ((cs.drop off).take s)) with
   | true, some v => match h.md with
    | 0 => some ([.t d (.v v, seen (fun j => .b k (off + j)) (cutO off s own))], [])
    | _ => match Z4l (.b k) own || Z4l (.t d) (cutO off s own) with
     | true => none
     | false => some ([.f (.b k), .b k (.cells cs (Zbz off s own))] ++ fresh d ++ [.t d (.v v, cutO off s own)], [])
   | _, _ => none
  | _ => none
 | some ag, some s, some (.v (.vptr cs), _) => match fitB ag 0 s s, Z7p ag (cs.take s) with
  | true, some v => one d v h [s ≤ cs.length]
  | _, _ => none
 | some ag, some s, some (.el p π i sz off, _) => match Zg5 L p π h, h.v with
  | some (dp, xs, ob), some v => match fitB ag 0 s s with
   | true => match dp with
    | true => some ([.t d (.v v, Zx2 p π i sz off 0 v.cells)], ob ++ [∃ c, xs[i]? = some c ∧ c.length = sz ∧ off + s ≤ c.length ∧ Z7p ag (((c.drop off).take s).map Zqn) = some v])
    | false => some ([.t d (.v v, [])], ob ++ [∃ c, xs[i]? = some c ∧ c.length = sz ∧ off + s ≤ c.length ∧ Z7p ag ((c.drop off).take s) = some v])
   | false => none
  | _, _ => none
 | _, _, _ => none
def Zgt (P : Program) (L : Look) (d : Nat) (S : TypeId) (x : Operand) (f : Nat) : Ans :=
 match Zoz P S f, ev L x with
 | some (off, ft), some (sv, _) => match Z4x P ft with
  | some (_ + 1) => match sv with
   | .ptr k o => some ([.t d (.ptr k (o + off), [])], [])
   | .v (.vptr cs) => some ([.t d (.v (.vptr (cs.drop off)), [])], [])
   | .el p π i sz o => some ([.t d (.el p π i sz (o + off), [])], [])
   | _ => none
  | _ => none
 | _, _ => none
def Zvd (P : Program) (L : Look) (d : Nat) (S : TypeId) (x : Operand) (f : Nat) : Ans :=
 match Zoz P S f, x with
 | some (off, ft), .tmp t => match L.t t with
  | some (.v (.agg cs), own) => match Z4x P ft, Zdi P ft with
   | some s, some ag => match fitB ag off s cs.length, Z7p ag ((cs.drop off).take s) with
    | true, some v => some ([.t d (.v v, seen (fun j => .t t (off + j)) (cutO off s own))], [])
    | _, _ => none
   | _, _ => none
  | _ => none
 | _, _ => none
def Zgs (P : Program) (L : Look) (d : Nat) (T : TypeId) (x i : Operand) (h : Hint) : Ans :=
 match Zl2 P T, evV L i with
 | some e, some (.int _ m) => match Z4x P e, Zd3 L x with
  | some s, some (.plain xs) => match h.v with
   | some (.vptr c) => some ([.t d (.v (.vptr c), [])], [0 ≤ m ∧ xs[m.toNat]? = some c ∧ c.length = s])
   | _ => none
  | some s, some (.held p π) => match Zg5 L p π h with
   | some (_, xs, ob) => some ([.t d (.el p π m.toNat s 0, [])], ob ++ [0 ≤ m ∧ ∃ c, xs[m.toNat]? = some c ∧ c.length = s])
   | none => none
  | some s, some (.part p π lo sz n) => match Nat.beq sz s with
   | true => some ([.t d (.el p π (lo + m.toNat) s 0, [])], [0 ≤ m ∧ m.toNat < n])
   | false => none
  | _, _ => none
 | _, _ => none
def Zvc (P : Program) (L : Look) (d : Nat) (T : TypeId) (x i : Operand) (h : Hint) : Ans :=
 match Zhk P T, evV L x, evV L i with
 | true, some (.str s), some (.int _ m) => one d (.int .u8 (bt s m)) h [0 ≤ m ∧ m.toNat < s.size]
 | _, _, _ => none
def oBin (P : Program) (L : Look) (d : Nat) (op : BinOp) (T : TypeId) (x y : Operand) (h : Hint) : Ans :=
 match evV L x, evV L y with
 | some (.int k a), some (.int k' b) => match op with
  | .quo => if k = k' then one d (.int k (k.wrap (a.tdiv b))) h [b ≠ 0] else none
  | .rem => if k = k' then one d (.int k (a.tmod b)) h [b ≠ 0] else none
  | .shl | .shr => none
  | op => if k = k' then (match binI op k a b with | some v => one d v h [] | none => none) else none
 | some (.str a), some (.str b) => match op with
  | .add => one d (.str (a ++ b)) h [Z36 a b]
  | op => match binS op a b with | some v => one d v h [] | none => none
 | some (.bool a), some (.bool b) => match op, P.underlying T with
  | .eql, some .bool => one d (.bool (a == b)) h []
  | .neq, some .bool => one d (.bool (!(a == b))) h []
  | _, _ => none
 | _, _ => none
def oUn (L : Look) (d : Nat) (op : UnOp) (x : Operand) (h : Hint) : Ans :=
 match op, evV L x with
 | .neg, some (.int k m) => one d (.int k (k.wrap (0 - m))) h []
 | .not, some (.bool b) => one d (.bool (!b)) h []
 | _, _ => none
def Zmv (P : Program) (L : Look) (d : Nat) (src dst : TypeId) (x : Operand) (h : Hint) : Ans :=
 match evV L x with
 | some (.int _ m) => match Zsd P dst, (P.underlying src).isSome with | some k, true => one d (.int k (k.wrap m)) h [] | _, _ => none
 | some (.str s) => match Zhk P dst && Zhk P src with | true => one d (.str s) h [] | false => none
 | _ => none
def Z43 : List AV → Nat → Nat
 | _, 0 => 0
 | [], _ => 0
 | v :: vs, i + 1 => v.cells.length + Z43 vs i
def Zmu (L : Look) (d : Nat) (x : Operand) (i : Nat) (h : Hint) : Ans :=
 match x with
 | .tmp t => match L.t t with
  | some (.v (.tup vs), own) => match vs[i]? with
   | some v => match v.solid, memN t h.tk, Z43 vs i, v.cells.length with
    | true, false, lo, s => match (vs.take i).all AV.solid with
     | true => some ([.t d (.v v, seen (fun j => .t t (lo + j)) (cutO lo s own))], [])
     | false => none
    | true, true, lo, s => match Z4l (.t t) own || Z4l (.t d) (cutO lo s own) || Nat.beq t d || !(vs.take i).all AV.solid with
     | true => none
     | false => some ([.f (.t t), .t t (.v (.tup vs), Zbz lo s own)] ++ fresh d ++ [.t d (.v v, cutO lo s own)], [])
    | false, _, _, _ => match own with | [] => some ([.t d (.v v, [])], []) | _ => none
   | none => none
  | _ => none
 | _ => none
def oNil (L : Look) (d : Nat) (x : Operand) (h : Hint) : Ans :=
 match ev L x with
 | some (.ptr k o, _) => some ([.t d (.ptr k o, [])], [])
 | some (.v a, _) => match h.v with
  | some (.vptr cs) => some ([.t d (.v (.vptr cs), [])], [a = .vptr cs])
  | some _ => none
  | none => match a with | .vptr cs => some ([.t d (.v (.vptr cs), [])], []) | _ => none
 | some (.el p π i sz o, _) => some ([.t d (.el p π i sz o, [])], [])
 | _ => none
def Z10g (L : Look) (d : Nat) (x : Operand) : Ans :=
 match evV L x with
 | some a => match a.solid with | true => some ([.t d (.v (.vptr a.cells), [])], []) | false => none
 | none => none
def Zva (P : Program) (L : Look) (d : Nat) (T : TypeId) (x : Operand) (lo hi : Option Operand) (h : Hint) : Ans :=
 match Zjf L lo, Zjf L hi with
 | some l, some hh => match evV L x with
  | some (.str s) => match Zhk P T with
   | true => one d (.str (s.extract (l.getD 0).toNat (hh.getD s.size).toNat)) h [0 ≤ l.getD 0 ∧ l.getD 0 ≤ hh.getD s.size ∧ hh.getD s.size ≤ s.size]
   | false => none
  | _ => match Zl2 P T with
   | some e => match Z4x P e, Zd3 L x with
    | some s, some (.plain xs) => match h.v with
     | some v => some ([.t d (.v v, [])], [0 ≤ l.getD 0 ∧ l.getD 0 ≤ hh.getD xs.length ∧ hh.getD xs.length ≤ xs.length ∧ (∀ c ∈ xs, c.length = s) ∧ AV.sl ((xs.take (hh.getD xs.length).toNat).drop (l.getD 0).toNat) = v])
     | none => some ([.t d (.v (.sl ((xs.take (hh.getD xs.length).toNat).drop (l.getD 0).toNat)), [])], [0 ≤ l.getD 0 ∧ l.getD 0 ≤ hh.getD xs.length ∧ hh.getD xs.length ≤ xs.length ∧ ∀ c ∈ xs, c.length = s])
    | some s, some (.held p π) => match x with
     | .tmp t => match memN t h.tk, L.t t, l, hh with
      | true, some (.v .slx, [(0, .ex e' dp xs)]), none, some m => match Nat.beq e e' && !Nat.beq e anyT, Zpt h (xs.take m.toNat) with
       | true, (ys, ob) => some ([.f (.t t), .t t (.v .slx, [])] ++ fresh d ++ [.t d (.v .slx, [(0, .ex e dp ys)])], ob ++ [0 ≤ m ∧ m ≤ (xs.length : Int)])
       | false, _ => none
      | false, _, _, _ => match Zg5 L p π h with
       | some (_, xs, ob) => some ([.t d (.v .slx, [(0, .sb p π (l.getD 0).toNat s ((hh.getD xs.length).toNat - (l.getD 0).toNat))])], ob ++ [0 ≤ l.getD 0 ∧ l.getD 0 ≤ hh.getD xs.length ∧ hh.getD xs.length ≤ xs.length])
       | none => none
      | _, _, _, _ => none
     | _ => none
    | _, _ => none
   | none => none
 | _, _ => none
def Zji (L : Look) (d : Nat) (fn : Fn) (first captured : List Operand) : Ans :=
 match fn, first, evVs L captured with
 | .func f, [], some caps => some ([.t d (.v (.func f caps), [])], [])
 | _, _, _ => none
def lenOf (L : Look) (x : Operand) (h : Hint) : Option (Nat × List Prop) :=
 match Zd3 L x with
 | some (.plain xs) => some (xs.length, [])
 | some (.held p π) => match Zg5 L p π h with | some (_, xs, ob) => some (xs.length, ob) | none => none
 | some (.part _ _ _ _ n) => some (n, [])
 | none => none
def Zmw (P : Program) (L : Look) (d : Nat) (b : Builtin) (args : List Operand) (tys : List TypeId) (h : Hint) : Ans :=
 match b, args, tys with
 | .len, [x], [t] => match P.underlying t with
  | some (.slice _) => match lenOf L x h with | some (n, ob) => one d (.int .i64 n) h ob | none => none
  | some .string => match evV L x with | some (.str s) => one d (.int .i64 s.size) h [] | _ => none
  | _ => none
 | .max, [x, y], _ => match evV L x, evV L y with | some (.int k a), some (.int k' b) => if k = k' then one d (.int k (if b > a then b else a)) h [] else none | _, _ => none
 | .min, [x, y], _ => match evV L x, evV L y with | some (.int k a), some (.int k' b) => if k = k' then one d (.int k (if b < a then b else a)) h [] else none | _, _ => none
 | _, _, _ => none
end Go.Bv

namespace Go.Bv
open Go.RowKit
variable {P : Program} {w w' : World} {a : Act} {o : Oper} {K : Act → World → Prop} {Q : Exit → Act → World → Prop}
theorem Zxc {v : Value} (h : (execOp a.eval o).run P w = .ok (.value v) w') (hk : K (a.put o.dst v) w') : o.wp P a w K Q := by
 unfold Oper.wp; rw [h]; exact hk
theorem Zhu {X : Gh} : ∀ {v : Value} {x : AV}, Zcs v = some x → Rel X w x v := by
 intro v x h
 unfold Zcs at h
 split at h <;> first | (cases h; done) | (cases h; first | rfl | trivial | skip)
 exact ⟨none, 0, 0, rfl, rfl, Nat.le_refl _, .inl rfl⟩
theorem Z91 {X : Gh} : ∀ {vs : List Value} {xs : List AV}, Z8h vs = some xs → RelL X w xs vs
 | [], xs, h => by simp [Z8h] at h; subst h; rfl
 | v :: vs, xs, h => by
  simp only [Z8h] at h
  split at h
  ·rename_i x xs' hx hxs
   cases h
   exact ⟨v, vs, rfl, Zhu hx, Z91 hxs⟩
  ·cases h
theorem Zre {X : Gh} {v : Value} {x : AV} (h : Zkm v = some x) : Rel X w x v := by
 unfold Zkm at h
 split at h
 ·rename_i cs
  rw [Option.map_eq_some_iff] at h
  obtain ⟨xs, h1, rfl⟩ := h
  exact ⟨cs.toList, by simp, Z91 h1⟩
 ·exact Zhu h
theorem Z4a {d n : Nat} (h : Nat.blt d n = true) : d < n := by
 simp [Nat.blt] at h; omega
theorem Z4g {t : TypeId} {dsc : TypeDesc} (h : P.underlying t = some dsc) : (underlying t).run P w = .ok dsc w := by
 simp [underlying, program, Sem.run, h]
theorem Z4k (op : BinOp) (T : TypeId) (x y : Operand) (k k' : IntKind) (m m' : Int) : (eqGuard op T x y (.int k m) (.int k' m')).run P w = .ok () w := by
 unfold eqGuard; cases op <;> simp
theorem Zfh (op : BinOp) (T : TypeId) (x y : Operand) (m m' : ByteArray) : (eqGuard op T x y (.string m) (.string m')).run P w = .ok () w := by
 unfold eqGuard; cases op <;> simp
theorem Zeg (op : BinOp) (T : TypeId) (x y : Operand) (m m' : Bool) : (eqGuard op T x y (.bool m) (.bool m')).run P w = .ok () w := by
 unfold eqGuard; cases op <;> simp
theorem Zxp {X : Gh} {op : BinOp} {T : TypeId} {k : IntKind} {x y : Int} {v : AV} (h : binI op k x y = some v) (h1 : op ≠ .quo) (h2 : op ≠ .rem) (h3 : op ≠ .shl) (h4 : op ≠ .shr) :
  ∃ u, (binOp op T (.int k x) (.int k y)).run P w = .ok u w ∧ Rel X w v u := by
 cases op <;> simp [binI] at h <;> subst h <;> first | (exact absurd rfl h1) | (exact absurd rfl h2) | (exact absurd rfl h3) | (exact absurd rfl h4) | (refine ⟨_, ?_, rfl⟩; simp [binOp, Op.intArith, Op.intCmp])
theorem Zxo {X : Gh} {op : BinOp} {T : TypeId} {x y : ByteArray} {v : AV} (h : binS op x y = some v) : ∃ u, (binOp op T (.string x) (.string y)).run P w = .ok u w ∧ Rel X w v u := by
 cases op <;> simp [binS] at h <;> subst h <;> (refine ⟨_, ?_, rfl⟩; simp [binOp, Op.stringOp])
theorem Zeh {T : TypeId} {x y : Bool} (hT : P.underlying T = some .bool) : (Op.equal T (.bool x) (.bool y)).run P w = .ok (x == y) w := by
 unfold Op.equal
 rw [show Op.maxDepth = 9999 + 1 from rfl, Op.equalIn]
 simp [Z4g hT]
theorem Zhe {T : TypeId} {x y : Bool} (hT : P.underlying T = some .bool) : (binOp .eql T (.bool x) (.bool y)).run P w = .ok (.bool (x == y)) w := by
 simp only [binOp, Sem.run_bind, Zeh hT, Result.andThen_ok]
 rfl
theorem Zhd {T : TypeId} {x y : Bool} (hT : P.underlying T = some .bool) : (binOp .neq T (.bool x) (.bool y)).run P w = .ok (.bool (!(x == y))) w := by
 simp only [binOp, Sem.run_bind, Zeh hT, Result.andThen_ok]
 rfl
theorem Zfg {t : TypeId} {ag : Bool} (h : Zdi P t = some ag) : (isAgg t).run P w = .ok ag w := by
 unfold Zdi at h
 cases hu : P.underlying t with
 | none => simp [hu] at h
 | some ds =>
  simp [hu] at h
  subst h
  cases ds <;> simp [isAgg, Z4g hu]
theorem Z3e {t : TypeId} {s : Nat} (h : Z4x P t = some s) : (sizeOf t).run P w = .ok s w := by
 unfold Z4x at h
 cases hu : P.info? t with
 | none => simp [hu] at h
 | some i => simp [hu] at h; subst h; simp [sizeOf, typeInfo, program, Sem.run, hu]
def Z8c (w : World) (b o : Nat) (us : List Value) : Prop := ∀ j u, us[j]? = some u → w.cell? ⟨b, o + j, none⟩ = some u
theorem Z6w {T : TypeId} {ag : Bool} {s b o : Nat} {us : List Value} (hag : Zdi P T = some ag) (hs : Z4x P T = some s) (hl : us.length = s) (hc : Z8c w b o us) (h1 : ag = true ∨ s = 1) :
  ∃ u, (loadVar T ⟨b, o, none⟩).run P w = .ok u w ∧ (if ag then u = .agg us.toArray else us = [u]) := by
 cases ag with
 | true =>
  refine ⟨.agg us.toArray, ?_, rfl⟩
  have hr := run_loadCells_list (P := P) w ⟨b, o, none⟩ us (fun j u hj => by rw [add_lit]; exact hc j u hj)
  rw [hl] at hr
  simp [loadVar, Zfg hag, Z3e hs, hr]
 | false =>
  have : s = 1 := by simpa using h1
  subst this
  match us, hl with
  | [u], _ =>
   refine ⟨u, ?_, rfl⟩
   have h0 := hc 0 u rfl
   simp at h0
   simp [loadVar, Zfg hag, load, Sem.run, h0]
theorem Z60 {X : Gh} {ag : Bool} {cs : List AV} {us : List Value} {v : AV} {u : Value} (ho : Z7p ag cs = some v) (hr : RelL X w cs us) (hu : if ag then u = .agg us.toArray else us = [u]) : Rel X w v u := by
 cases ag with
 | true => simp [Z7p] at ho; subst ho; simp at hu; exact ⟨us, hu, hr⟩
 | false =>
  unfold Z7p at ho
  simp at ho
  split at ho
  ·cases ho
   simp at hu
   subst hu
   obtain ⟨u', r', e, h1, h2⟩ := hr
   cases e; exact h1
  ·cases ho
theorem Zgj {X : Gh} : ∀ {cs : List AV} {b o : Nat}, RelC X w b o cs → ∃ us, RelL X w cs us ∧ us.length = cs.length ∧ Z8c w b o us
 | [], b, o, _ => ⟨[], rfl, rfl, fun j u hj => by simp at hj⟩
 | c :: cs, b, o, ⟨⟨u, hc, hk, hr⟩, q⟩ => by
  obtain ⟨us, h1, h2, h3⟩ := Zgj q
  refine ⟨u :: us, ⟨u, us, rfl, hr, h1⟩, by simp [h2], ?_⟩
  intro j v hj
  cases j with
  | zero => simp at hj; subst hj; exact hc
  | succ j =>
   have := h3 j v (by simpa using hj)
   rwa [show o + 1 + j = o + (j + 1) by omega] at this
theorem Zjx {S : TypeId} {f off : Nat} {ft : TypeId} (h : Zoz P S f = some (off, ft)) : ∃ fs fd, P.underlying S = some (.struct fs) ∧ fs[f]? = some fd ∧ fd.offset = off ∧ fd.type = ft := by
 unfold Zoz at h
 split at h
 ·rename_i fs hu
  simp only [Option.map_eq_some_iff] at h
  obtain ⟨fd, h1, h2⟩ := h
  cases h2
  exact ⟨fs, fd, hu, h1, rfl, rfl⟩
 ·cases h
theorem Zen {S : TypeId} {f off b x : Nat} {ft : TypeId} {m : Nat} (h : Zoz P S f = some (off, ft)) (hs : Z4x P ft = some (m + 1)) :
  (Instr.fieldAt S (.pointer (some ⟨b, x, none⟩)) f).run P w = .ok (.pointer (some ⟨b, x + off, none⟩)) w := by
 obtain ⟨fs, fd, h1, h2, rfl, rfl⟩ := Zjx h
 simp [Instr.fieldAt, Z4g h1, h2, Instr.sureAddr, fieldPlace, Z3e hs, add_lit]
theorem Zml {T : TypeId} {ag : Bool} {s off : Nat} {us : List Value} (hag : Zdi P T = some ag) (hs : Z4x P T = some s) (hl : off + s ≤ us.length) (h1 : ag = true ∨ s = 1) :
  ∃ u, (part T us.toArray off).run P w = .ok u w ∧ (if ag then u = .agg ((us.drop off).take s).toArray else (us.drop off).take s = [u]) := by
 cases ag with
 | true =>
  refine ⟨_, ?_, rfl⟩
  simp only [part, Sem.run_bind, Zfg hag, Result.andThen_ok, if_true, Z3e hs]
  simp
 | false =>
  have : s = 1 := by simpa using h1
  subst this
  have hlt : off < us.length := by omega
  refine ⟨us[off], ?_, ?_⟩
  ·simp [part, Zfg hag, hlt]
  ·simp only [Bool.false_eq_true, if_false]
   have e := List.drop_eq_getElem_cons hlt
   rw [e]; rfl
theorem Ze9 {T e : TypeId} (h : Zl2 P T = some e) : P.underlying T = some (.slice e) := by
 unfold Zl2 at h
 split at h
 ·cases h; assumption
 ·cases h
theorem Zo3 {f : Nat} {args : Array Value} (h : ((P.funcs[f]?).map fun fn => fn.body.isSome && fn.name != "runtime.NumGoroutine") = some true) : (callFunc f args).run P w = .ok (.enter f args) w := by
 simp only [Option.map_eq_some_iff] at h
 obtain ⟨fn, hf, hb⟩ := h
 simp only [Bool.and_eq_true, bne_iff_ne, ne_eq] at hb
 obtain ⟨b, hc⟩ := Option.isSome_iff_exists.1 hb.1
 simp [callFunc, program, Sem.run, hf, hb.2, hc]
theorem Z58 {α : Type} : ∀ (vs us : List α) (off : Nat), (setAll us off vs).length = us.length
 | [], us, off => rfl
 | v :: vs, us, off => by rw [setAll, Z58 vs]; simp
theorem Z33 {α : Type} : ∀ (vs us : List α) (off : Nat), off + vs.length ≤ us.length → setAll us off vs = us.take off ++ vs ++ us.drop (off + vs.length)
 | [], us, off, h => by simp [setAll]
 | v :: vs, us, off, h => by
  simp only [List.length_cons] at h
  rw [setAll, Z33 vs _ _ (by simp; omega)]
  have h1 : (us.set off v).take (off + 1) = us.take off ++ [v] := by
   rw [List.take_set, List.take_succ_eq_append_getElem (by omega), List.set_append]
   simp [Nat.min_eq_left (show off ≤ us.length by omega)]
  have h2 : (us.set off v).drop (off + 1 + vs.length) = us.drop (off + (vs.length + 1)) := by
   rw [List.drop_set]
   simp [show off < off + 1 + vs.length by omega]
   congr 1; omega
  rw [h1, h2]; simp [List.append_assoc]
theorem RelL.setAll {X : Gh} : ∀ {new : List AV} {vnew : List Value} {cs : List AV} {us : List Value} (off : Nat), RelL X w new vnew → RelL X w cs us → RelL X w (setAll cs off new) (setAll us off vnew)
 | [], vnew, cs, us, off, h1, h2 => by rw [show vnew = [] from h1]; exact h2
 | c :: new, vnew, cs, us, off, ⟨u, r, e, h1, h3⟩, h2 => by
  rw [e]; exact RelL.setAll (off + 1) h3 (h2.set off h1)
theorem Zhn (off : Nat) : ∀ (vs : List Value) (k : Nat) (cells : Array Value),
  ((vs.zipIdx k).foldl (fun cs (x : Value × Nat) => cs.setIfInBounds (off + x.2) x.1) cells).toList = setAll cells.toList (off + k) vs
 | [], k, cells => rfl
 | v :: vs, k, cells => by
  rw [List.zipIdx_cons, List.foldl_cons, Zhn off vs (k + 1)]
  simp only [Array.toList_setIfInBounds, setAll]
  rw [Nat.add_assoc]
theorem Zox {place : Nat → Option (Nat × Nat)} {cells : Array Value} {i off size : Nat} {v : Value} {rest : List (Nat × Value)} (hp : place i = some (off, size)) (hs : v.cells.size = size)
  (hf : off + size ≤ cells.size) : Instr.fill place cells ((i, v) :: rest) = Instr.fill place (setAll cells.toList off v.cells.toList).toArray rest := by
 have h1 : ¬ (off + v.cells.size > cells.size) := by omega
 simp only [Instr.fill, hp, hs, ne_eq, not_true_eq_false, decide_false, Bool.false_or, decide_eq_true_eq, hs ▸ h1, if_false, Bool.false_eq_true]
 congr 1
 apply Array.ext'
 have := Zhn off v.cells.toList 0 cells
 rw [Nat.add_zero] at this
 rw [← this, ← Array.foldl_toList]
 simp
theorem Zdu {T : TypeId} {zs : List AV} (h : Zsv P T = some zs) : ∃ i z, P.info? T = some i ∧ i.zero = some z ∧ Z8h z.cells.toList = some zs := by
 unfold Zsv at h
 simp only [Option.bind_eq_some_iff] at h
 obtain ⟨i, hi, z, hz, h⟩ := h
 exact ⟨i, z, hi, hz, h⟩
theorem Z9c {T : TypeId} {i : TypeInfo} {z : Value} (hi : P.info? T = some i) (hz : i.zero = some z) : (zeroValue T).run P w = .ok z w := by
 simp [zeroValue, typeInfo, program, Sem.run, hi, hz]
theorem Zlf : ∀ (fs : List Field) (ps : List (Nat × Nat)), Zfn P fs = some ps → (fs.mapM fun f => do pure (f.offset, ← sizeOf f.type) : Sem (List (Nat × Nat))).run P w = .ok ps w
 | [], ps, h => by simp [Zfn] at h; subst h; simp
 | f :: fs, ps, h => by
  simp only [Zfn] at h
  split at h
  ·rename_i s r hs hr
   cases h
   have := Zlf fs r hr
   simp only [List.mapM_cons, Sem.run_bind, Z3e hs, Result.andThen_ok, Sem.run_pure, this]
  ·cases h
theorem Zfj {k : IntKind} {m : Int} {y : Nat} {c : BoundsCode} (h0 : 0 ≤ m) (h1 : m ≤ (y : Int)) : (Instr.sliceBound (.int k m) y c).run P w = .ok m.toNat w := by
 simp [Instr.sliceBound, asIntOf, h0, h1]
theorem Zy4 {X : Gh} {c : AV} {u : Value} (h : Rel X w c u) (hl : c.leaf = true) : u.oneCell' = true := by
 cases c with
 | int k m => rw [show u = _ from h]; rfl
 | bool b => rw [show u = _ from h]; rfl
 | str s => rw [show u = _ from h]; rfl
 | agg cs => cases hl
 | tup cs => cases hl
 | sl xs => obtain ⟨A, len, cap, e, _⟩ := h; rw [e]; rfl
 | vptr cs => obtain ⟨b, f, e, _⟩ := h; rw [e]; rfl
 | func f cs => obtain ⟨us, e, _⟩ := h; rw [e]; rfl
 | mp ks vs => obtain ⟨r, es, k, e, _⟩ := h; rw [e]; rfl
 | slx => obtain ⟨A, len, cap, e⟩ := h; rw [e]; rfl
 | raw _ => obtain ⟨_, A, len, cap, e⟩ := h; rw [e]; rfl
 | nil b => rw [show u = _ from h]; cases b <;> rfl
 | undef => cases hl
theorem Z9i {X : Gh} : ∀ {cs : List AV} {us : List Value}, RelL X w cs us → cs.all AV.leaf = true → ∀ v ∈ us, v.oneCell' = true
 | [], us, h, _, v, hv => by rw [show us = [] from h] at hv; cases hv
 | c :: cs, us, ⟨u, r, e, h1, h2⟩, hl, v, hv => by
  subst e
  simp only [List.all_cons, Bool.and_eq_true] at hl
  rcases List.mem_cons.1 hv with rfl | hv
  ·exact Zy4 h1 hl.1
  ·exact Z9i h2 hl.2 v hv
theorem Zb4 (f : List AV → List AV) : ∀ (rows : List (List AV)) (i : Nat) (c : List AV) (sz off : Nat) (new : List AV), (∀ c ∈ rows, c.length = sz) → rows[i]? = some c → off + new.length ≤ sz →
  (rows.modify i fun c => setAll c off new).flatten = setAll rows.flatten (i * sz + off) new
 | [], i, c, sz, off, new, _, h, _ => by simp at h
 | r :: rows, 0, c, sz, off, new, hl, h, hf => by
  simp at h; subst h
  have hr : r.length = sz := hl r (by simp)
  rw [show List.modify (r :: rows) 0 (fun c => setAll c off new) = setAll r off new :: rows from rfl]
  rw [List.flatten_cons, List.flatten_cons, Z33 _ _ _ (by omega), Z33 _ _ _ (by simp; omega)]
  simp only [Nat.zero_mul, Nat.zero_add]
  rw [List.take_append_of_le_length (by omega), List.drop_append_of_le_length (by omega)]
  simp [List.append_assoc]
 | r :: rows, i + 1, c, sz, off, new, hl, h, hf => by
  have hr : r.length = sz := hl r (by simp)
  have ih := Zb4 f rows i c sz off new (fun c h => hl c (by simp [h])) (by simpa using h) hf
  rw [show List.modify (r :: rows) (i + 1) (fun c => setAll c off new) = r :: rows.modify i (fun c => setAll c off new) from rfl]
  rw [List.flatten_cons, List.flatten_cons, ih]
  have hlen : (rows.flatten).length = rows.length * sz := by
   clear ih h
   induction rows with
   | nil => simp
   | cons x xs ih2 => simp only [List.flatten_cons, List.length_append, List.length_cons]; rw [hl x (by simp), ih2 (fun c hc => by
     rcases List.mem_cons.1 hc with rfl | hc
     ·exact hl _ (by simp)
     ·exact hl c (by simp [hc]))]; rw [Nat.add_mul]; omega
  have hi : i < rows.length := (List.getElem?_eq_some_iff.1 (by simpa using h)).1
  have hb : i * sz + sz ≤ rows.length * sz := by
   have := Nat.mul_le_mul_right sz (show i + 1 ≤ rows.length from hi)
   rwa [Nat.add_mul, Nat.one_mul] at this
  have e : (i + 1) * sz + off = r.length + (i * sz + off) := by rw [Nat.add_mul, hr]; omega
  rw [e, Z33 _ _ _ (by rw [hlen]; omega), Z33 _ _ _ (by rw [List.length_append, hlen]; omega)]
  rw [List.take_length_add_append, show r.length + (i * sz + off) + new.length = r.length + (i * sz + off + new.length) by omega, List.drop_length_add_append]
  simp [List.append_assoc]
theorem Z9t {T : TypeId} {s : Nat} {A : Addr} {v : Value} (hs : Z4x P T = some s) (hv : v.cells.size = s) : (Instr.storeAt T (.pointer (some A)) v).run P w = (storeCells A v.cells.toList).run P w := by
 simp [Instr.storeAt, Instr.sureAddr, storeVar, Z3e hs, hv]
theorem Zgh {X : Gh} {sz b : Nat} : ∀ {xs : List (List AV)} {o : Nat}, RelE X w sz b o xs → ∃ us, RelL X w xs.flatten us ∧ us.length = xs.length * sz ∧ Z8c w b o us ∧ ∀ j, j < xs.length * sz → okc X b (o + j)
 | [], o, _ => ⟨[], rfl, by simp, fun j u hj => by simp at hj, fun j hj => by simp at hj⟩
 | c :: xs, o, ⟨h1, h2, h3⟩ => by
  obtain ⟨us1, r1, l1, c1⟩ := Zgj h2
  obtain ⟨us2, r2, l2, c2, k2⟩ := Zgh h3
  have hlen : (c :: xs).length * sz = sz + xs.length * sz := by simp [Nat.add_mul]; omega
  refine ⟨us1 ++ us2, by rw [List.flatten_cons]; exact r1.append r2, by rw [List.length_append, l1, l2, hlen, h1], ?_, ?_⟩
  ·intro j u hj
   by_cases hlt : j < us1.length
   ·rw [List.getElem?_append_left hlt] at hj; exact c1 j u hj
   ·rw [List.getElem?_append_right (by omega)] at hj
    have := c2 _ u hj
    rw [show o + sz + (j - us1.length) = o + j by omega] at this; exact this
  ·intro j hj
   rw [hlen] at hj
   by_cases hlt : j < sz
   ·have g : c[j]? = some (c[j]'(by omega)) := by simp [show j < c.length by omega]
    obtain ⟨u, _, hk, _⟩ := h2.get j g
    exact hk
   ·have := k2 (j - sz) (by omega)
    rwa [show o + sz + (j - sz) = o + j by omega] at this
theorem Zks {xs : List (List AV)} (h : ∀ c ∈ xs, c.all AV.leaf = true) : xs.flatten.all AV.leaf = true := by
 rw [List.all_eq_true]
 intro x hx
 obtain ⟨c, hc, hxc⟩ := List.mem_flatten.1 hx
 exact List.all_eq_true.1 (h c hc) x hxc
theorem Zmm (base : Nat) (t ty e : TypeId) (i : TypeInfo) (z : Value) (size bytes : Nat) (ht : P.underlying t = some (.slice e)) (hi : P.info? e = some i) (hz : i.zero = some z)
  (hsize : i.size = size) (hby : i.bytes = bytes) (hzs : z.cells.size = size) (hsz : 0 < size)
  (v : Value) (m0 : Nat) (xs : List Value) (hown : w.ownsRow base e size v m0 xs)
  (x : Addr) (m c : Nat) (news : List Value) (hl : news.length = m * size) (hnews : ∀ j u, news[j]? = some u → w.cell? (x.add j) = some u) (h1 : ∀ u ∈ news, u.oneCell' = true)
  (h63 : m0 + m ≤ maxLen) (hbytes : (m0 + m) * bytes ≤ 140737488355328) (hbase : base ≤ w.heap.size) :
  ∃ v' w', (Builtin.append_ #[t, t] ty #[v, .slice (some x) m c]).run P w = .ok v' w' ∧ w'.ownsRow base e size v' (m0 + m) (xs ++ news) ∧ w.grownBy w' v.ownBlock ∧
   (v'.ownBlock = v.ownBlock ∨ ∃ b, v'.ownBlock = some b ∧ w.heap.size ≤ b ∧ w.grownBy w' none) := by
 obtain ⟨v', w', hr, ho, hg, _⟩ := run_append_own (P := P) (w := w) base t ty e i z size bytes ht hi hz hsize hby hzs hsz v m0 xs hown x m c news hl hnews h1 h63 hbytes hbase
 refine ⟨v', w', hr, ho, hg, ?_⟩
 have hsmall : m0 + m ≤ 9223372036854775807 := by simp only [maxLen] at h63; omega
 subst hsize
 subst hby
 rcases hown.2 with ⟨rfl, rfl⟩ | ⟨g, cap, cur, rfl, hbg, hgc, hnc, hcm, hcs, htake⟩
 ·by_cases hm : m = 0
  ·subst hm
   have hn : news = [] := List.eq_nil_of_length_eq_zero (by simpa using hl)
   subst hn
   have : (Builtin.append_ #[t, t] ty #[.slice none 0 0, .slice (some x) 0 c]).run P w = .ok (.slice none 0 0) w := by
    simp [Builtin.append_, run_underlying ht, sizeOf, typeInfo, hi, Builtin.lenOf, Builtin.firstCells, loadCells, loadCellsFrom]
   rw [this] at hr
   cases hr
   exact .inl rfl
  ·have hr2 := run_append_nil (P := P) w t ty e i z ht hi hz x m c news hl hnews (by omega) (by omega) (by have hb := hbytes; simp only [Nat.zero_add] at hb; omega)
   rw [hr2] at hr
   cases hr
   exact .inr ⟨_, rfl, Nat.le_refl _, ⟨rfl, rfl, rfl, by simp, fun k hk _ => by rw [Below.heap_alloc w.drew _ k hk]; rfl⟩⟩
 ·by_cases hroom : m0 + m ≤ cap
  ·have hfit : m0 * i.size + news.length ≤ cur.size := by rw [hl, hcs, ← Nat.add_mul]; exact Nat.mul_le_mul_right _ hroom
   have hr2 := run_append_room (P := P) w t ty e i ht hi g m0 cap cur hgc x m c news hl hnews h1 hroom hfit
   rw [hr2] at hr
   cases hr
   exact .inl rfl
  ·have holds : ∀ j u, xs[j]? = some u → w.cell? ((⟨g, 0, none⟩ : Addr).add j) = some u := hown.cells (g := g) rfl
   have hr2 := run_append_grow (P := P) w t ty e i z ht hi hz ⟨g, 0, none⟩ m0 cap xs hown.1 holds x m c news hl hnews (by omega) (by omega) (growslice_fits (by omega) hbytes)
   rw [hr2] at hr
   cases hr
   exact .inr ⟨_, rfl, Nat.le_refl _, ⟨rfl, rfl, rfl, by simp, fun k hk _ => by rw [Below.heap_alloc w.drew _ k hk]; rfl⟩⟩
theorem Z3o {a b : Nat} (h : Nat.beq a b = true) : a = b := Nat.eq_of_beq_eq_true h
theorem Z57 {a b : Nat} (h : Nat.beq a b = false) : a ≠ b := by
 intro e; subst e; simp at h
end Go.Bv

namespace Go.Bv
open Go.RowKit
variable {E : Env} {P : Program} {n : Nat} {L L' : Look} {a : Act} {w w' : World} {G G' : Gho} {D D' : LP → Prop} {o : Oper} {d : Nat} {h : Hint} {ups : List Upd} {obs : List Prop}
def Does (E : Env) (L : Look) (o : Oper) (a : Act) (w : World) (us : List Upd) : Prop :=
 ∀ Q, o.wp E.P a w (fun a' w' => SR E (L.upds us) a' w') Q
theorem Zg (hd : o.dst = some d) {v : Value} (h : (execOp a.eval o).run E.P w = .ok (.value v) w') (hk : SR E (L.upds ups) (a.put (some d) v) w') : Does E L o a w ups :=
 fun Q => Zxc h (by rw [hd]; exact hk)
theorem Z6s (h : Inv E L a w G) {x : Operand} {sv : SV} {own : OwnL} (he : ev L x = some (sv, own)) : RelS G w sv (a.eval x) := by
 cases x with
 | tmp t => exact (h.tm t sv own he).2.1
 | const v =>
  simp only [ev, Option.map_eq_some_iff] at he
  obtain ⟨y, hy, e⟩ := he
  cases e
  exact Zre hy
 | global g => cases he
 | func f => simp [ev] at he; obtain ⟨rfl, _⟩ := he; exact ⟨[], rfl, rfl⟩
theorem Z2k (h : Inv E L a w G) {x : Operand} {v : AV} (he : evV L x = some v) : Rel G.X w v (a.eval x) := by
 unfold evV at he
 split at he
 ·rename_i y own hy
  cases he
  exact Z6s h hy
 ·cases he
theorem Zsj (h : Inv E L a w G) : ∀ {xs : List Operand} {vs : List AV}, evVs L xs = some vs → RelL G.X w vs (xs.map a.eval)
 | [], vs, he => by simp [evVs] at he; subst he; rfl
 | x :: xs, vs, he => by
  simp only [evVs] at he
  split at he
  ·rename_i v vs' hv hvs
   cases he
   exact ⟨_, _, rfl, Z2k h hv, Zsj h hvs⟩
  ·cases he
theorem Z1t (L : Look) (xs ys : List Upd) : L.upds (xs ++ ys) = (L.upds xs).upds ys := by simp [Look.upds, List.foldl_append]
theorem Z5j (hI : Inv E L a w G) {v : AV} {ob : List Prop} (hd : d < E.n) (hf : one d v h ob = some (ups, obs)) (hob : ∀ p ∈ obs, p) {u : Value} (hr : Rel G.X w v u) : SR E (L.upds ups) (a.put (some d) u) w := by
 unfold one at hf
 split at hf
 ·rename_i v' _
  cases hf
  have : v = v' := hob _ (by simp)
  subst this
  exact ⟨G, hI.setT hd (sv := .v v) hr (fun j oe hj => by cases hj)⟩
 ·cases hf
  exact ⟨G, hI.setT hd (sv := .v v) hr (fun j oe hj => by cases hj)⟩
theorem Zce {v : AV} {ob : List Prop} (hf : one d v h ob = some (ups, obs)) (hob : ∀ p ∈ obs, p) : ∀ p ∈ ob, p := by
 unfold one at hf
 split at hf <;> cases hf
 ·exact fun p hp => hob p (by simp [hp])
 ·exact hob
theorem Zhv : ∀ {l : OwnL}, Zmc l = false → ∀ j x, (j, x) ∈ l → x.owner = false
 | [], _, j, x, h => by cases h
 | (k, y) :: l, h, j, x, hm => by
  simp only [Zmc, Bool.or_eq_false_iff] at h
  rcases List.mem_cons.1 hm with h1 | h1
  ·cases h1; exact h.1
  ·exact Zhv h.2 j x h1
theorem Z9b {p : Nat → OP} : ∀ {own : OwnL} {j : Nat} {x : OE}, (j, x) ∈ seen p own → x.owner = false ∧ ((j, x) ∈ own ∨ (x = .al (p j) [] ∧ ∃ y, (j, y) ∈ own ∧ y.owner = true))
 | [], j, x, h => by cases h
 | (k, .app e) :: l, j, x, h => by
  obtain ⟨h1, h2⟩ := Z9b (own := l) h
  exact ⟨h1, h2.imp (List.mem_cons_of_mem _) (fun ⟨e1, y, h3, h4⟩ => ⟨e1, y, List.mem_cons_of_mem _ h3, h4⟩)⟩
 | (k, .ex e dp xs) :: l, j, x, h => by
  rcases List.mem_cons.1 h with h | h
  ·cases h; exact ⟨rfl, .inr ⟨rfl, _, List.mem_cons_self, rfl⟩⟩
  ·obtain ⟨h1, h2⟩ := Z9b (own := l) h
   exact ⟨h1, h2.imp (List.mem_cons_of_mem _) (fun ⟨e1, y, h3, h4⟩ => ⟨e1, y, List.mem_cons_of_mem _ h3, h4⟩)⟩
 | (k, .al q π) :: l, j, x, h => by
  rcases List.mem_cons.1 h with h | h
  ·cases h; exact ⟨rfl, .inl List.mem_cons_self⟩
  ·obtain ⟨h1, h2⟩ := Z9b (own := l) h
   exact ⟨h1, h2.imp (List.mem_cons_of_mem _) (fun ⟨e1, y, h3, h4⟩ => ⟨e1, y, List.mem_cons_of_mem _ h3, h4⟩)⟩
 | (k, .sb q π lo sz n) :: l, j, x, h => by
  rcases List.mem_cons.1 h with h | h
  ·cases h; exact ⟨rfl, .inl List.mem_cons_self⟩
  ·obtain ⟨h1, h2⟩ := Z9b (own := l) h
   exact ⟨h1, h2.imp (List.mem_cons_of_mem _) (fun ⟨e1, y, h3, h4⟩ => ⟨e1, y, List.mem_cons_of_mem _ h3, h4⟩)⟩
theorem Zie {p : Nat → OP} {own : OwnL} {j : Nat} {x : OE} {q : OP} {u : Value} (h : (j, x) ∈ seen p own) (ho : ∀ y, (j, y) ∈ own → Own P G w (p j) y u) : Own P G w q x u := by
 obtain ⟨h1, h2⟩ := Z9b h
 rcases h2 with h2 | ⟨rfl, y, h3, h4⟩
 ·exact (ho x h2).al_any h1
 ·exact ⟨((ho y h3).pv h4).symm, Z55 (ho y h3) h4⟩
inductive Grabbed (E : Env) (L : Look) (a : Act) (w : World) (G : Gho) (x : Operand) (sv : SV) (own : OwnL) : List Upd → Prop where
 | seen (hr : RelS G w sv (a.eval x)) (ho : ∀ j oe, (j, oe) ∈ own → oe.owner = false ∧ ∃ u, (Value.flat (a.eval x))[j]? = some u ∧ ∀ q, Own E.P G w q oe u) : Grabbed E L a w G x sv own []
 | taken (t : Nat) (y : AV) (hx : x = .tmp t) (hs : sv = .v y) (ht : L.t t = some (.v y, own)) (hn : Z4l (.t t) own = false) : Grabbed E L a w G x sv own [.f (.t t), .t t (.v y, [])]
theorem Z8v (hI : Inv E L a w G) {x : Operand} {tk : List Nat} {sv : SV} {own : OwnL} {pre : List Upd} (hg : grab L x tk = some (sv, own, pre)) : Grabbed E L a w G x sv own pre := by
 have other : ∀ {x : Operand}, ev L x = some (sv, own) ∨ (∃ o', ev L x = some (sv, o') ∧ own = []) → (∀ t, x ≠ .tmp t) → pre = [] → Grabbed E L a w G x sv own pre := by
  rintro x hx hne rfl
  rcases hx with hx | ⟨o', hx, rfl⟩
  ·refine .seen (Z6s hI hx) (fun j oe hj => ?_)
   cases x with
   | tmp t => exact absurd rfl (hne t)
   | const v => simp [ev] at hx; obtain ⟨_, _, _, rfl⟩ := hx; cases hj
   | func f => simp [ev] at hx; obtain ⟨_, rfl⟩ := hx; cases hj
   | global g => cases hx
  ·exact .seen (Z6s hI hx) (fun j oe hj => by cases hj)
 cases x with
 | tmp t =>
  simp only [grab] at hg
  split at hg
  ·rename_i sv' own' ht
   split at hg
   ·split at hg
    ·rename_i y
     split at hg
     ·cases hg
     ·rename_i hn
      cases hg
      exact .taken t y rfl rfl ht hn
    ·cases hg
   ·cases hg
    obtain ⟨_, h2, h3⟩ := hI.tm t sv own' ht
    refine .seen h2 (fun j oe hj => ?_)
    obtain ⟨h4, h5⟩ := Z9b hj
    have hu : ∃ u, (Value.flat (a.tmps.getD t undef))[j]? = some u := by
     rcases h5 with h5 | ⟨_, y, h5, _⟩
     ·obtain ⟨u, hu, _⟩ := h3 j _ h5; exact ⟨u, hu⟩
     ·obtain ⟨u, hu, _⟩ := h3 j _ h5; exact ⟨u, hu⟩
    obtain ⟨u, hu⟩ := hu
    refine ⟨h4, u, hu, fun q => Zie hj (fun y hy => ?_)⟩
    obtain ⟨u', hu', ho⟩ := h3 j y hy
    rw [hu] at hu'; cases hu'
    exact ho
  ·cases hg
 | const v =>
  simp only [grab] at hg
  split at hg
  ·rename_i sv' o' he; cases hg; exact other (.inr ⟨_, he, rfl⟩) (by simp) rfl
  ·cases hg
 | func v =>
  simp only [grab] at hg
  split at hg
  ·rename_i sv' o' he; cases hg; exact other (.inr ⟨_, he, rfl⟩) (by simp) rfl
  ·cases hg
 | global v => simp [grab, ev] at hg
theorem Ztg (hI : Inv E L a w G) {x : Operand} {tk : List Nat} {sv : SV} {own : OwnL} {pre : List Upd} (hg : Z10v L x tk = some (sv, own, pre)) : Grabbed E L a w G x sv own pre := by
 unfold Z10v at hg
 split at hg
 ·rename_i k off own' hx
  split at hg
  ·rename_i m cs hb
   cases hg
   obtain ⟨hX, hlab, us, e, hheap, hok⟩ := hI.bo k _ hb
   refine .seen ⟨G.bx k, off, Z6s hI hx, ?_⟩ (fun j oe hj => by cases hj)
   have hr : RelL G.X w ((cs.take m).drop off) ((us.toList.take m).drop off) := (hok.take m).drop off
   refine Zgi (Ext.refl _ _) _ _ off hr (fun j u hj => ?_) (fun j hj => ?_)
   ·rw [Z4u hheap]
    rw [List.getElem?_drop, List.getElem?_take] at hj
    split at hj
    ·simpa using hj
    ·cases hj
   ·have hX' : G.X (G.bx k) = some m := hX
    simp only [okc, hX']
    rw [List.length_drop, List.length_take] at hj
    omega
  ·cases hg
 ·exact Z8v hI hg
def Zjm (t d : Nat) : OP → OP
 | .t k j => if k = t then .t d j else .t k j
 | p => p
theorem Ze5 {t : Nat} {own : OwnL} (hn : Z4l (.t t) own = false) {d j : Nat} {oe : OE} (hj : (j, oe) ∈ own) (ho : oe.owner = false) {q : OP} : okE (DR (.t t)) q oe := by
 have := Zi hn j oe hj
 exact Z6j this (fun h => by rw [ho] at h; cases h)
def pvT (pv : OP → Value) (d : Nat) (u : Value) : OP → Value
 | .t k j => if k = d then ((Value.flat u)[j]?).getD undef else pv (.t k j)
 | p => pv p
theorem Zj3 {pv : OP → Value} {d : Nat} {u : Value} {p : OP} (h : ¬ DR (.t d) (.own p)) : pvT pv d u p = pv p := by
 cases p with
 | t k j => simp only [DR] at h; simp [pvT, h]
 | b k j => rfl
 | a k j => rfl
theorem Zj4 {pv : OP → Value} {d j : Nat} {u c : Value} (h : (Value.flat u)[j]? = some c) : pvT pv d u (.t d j) = c := by
 simp only [pvT, if_true, h, Option.getD_some]
theorem Zxg (hI : Inv E L a w G) {t : Nat} {y : AV} {own : OwnL} (hd : d < E.n) (ht : L.t t = some (.v y, own)) (hn : Z4l (.t t) own = false) (hn' : Z4l (.t d) own = false) :
  SR E (L.upds ([.f (.t t), .t t (.v y, [])] ++ (fresh d ++ [.t d (.v y, own)]))) (a.put (some d) (a.tmps.getD t undef)) w := by
 obtain ⟨_, hr, ho⟩ := hI.tm t _ _ ht
 obtain ⟨h1, av1⟩ := hI.clear ht
 obtain ⟨h2, av2⟩ := h1.fresh hd
 have av1' : Av (DR (.t t)) (Look.upds ((L.upd (.f (.t t))).upd (.t t (.v y, []))) (fresh d)) := (av1.f (.t d)).setT trivial (fun j oe hj => by cases hj)
 have av := av1'.or av2
 have hS : Stp (fun q => DR (.t t) q ∨ DR (.t d) q) w w G (G.hand (Zjm t d) (pvT G.pv d (a.tmps.getD t undef))) := Stp.hand hI
  (fun p hp => by
   cases p with
   | t k j => simp only [DR, not_or] at hp; simp [Zjm, hp.1]
   | b k j => rfl
   | a k j => rfl)
  (fun p hp => by
   simp only [not_or] at hp
   exact Zj3 hp.2)
  (fun i j => rfl)
 have h3 := h2.step' av hS
 refine ⟨_, h3.setT hd (sv := .v y) hr (fun j oe hj => ?_)⟩
 obtain ⟨c, hc, hoc⟩ := ho j oe hj
 refine ⟨c, hc, ?_⟩
 cases hw : oe.owner with
 | true => exact hoc.hand hw (by simp [Zjm]) (Zj4 hc)
 | false =>
  refine (hS.own ?_ hoc).al_any hw
  exact okE.or (Ze5 (d := d) hn hj hw) (Ze5 (d := d) hn' hj hw)
theorem Zt7 {sv : SV} {own : OwnL} {us : List Upd} (h : putT d sv own = some us) (ho : ∀ j oe, (j, oe) ∈ own → oe.owner = false) : us = [.t d (sv, own)] := by
 unfold putT at h
 split at h
 ·cases h; rfl
 ·rename_i hx
  exfalso
  have : ∀ {l : OwnL}, Zmc l = true → ∃ j x, (j, x) ∈ l ∧ x.owner = true := by
   intro l
   induction l with
   | nil => intro h; cases h
   | cons p l ih =>
    obtain ⟨k, y⟩ := p
    intro h
    simp only [Zmc, Bool.or_eq_true] at h
    rcases h with h | h
    ·exact ⟨k, y, List.mem_cons_self, h⟩
    ·obtain ⟨j, x, h1, h2⟩ := ih h; exact ⟨j, x, List.mem_cons_of_mem _ h1, h2⟩
  obtain ⟨j, x, h1, h2⟩ := this hx
  rw [ho j x h1] at h2; cases h2
theorem Zry {sv : SV} {own : OwnL} {us : List Upd} (h : putT d sv own = some us) : (us = [.t d (sv, own)] ∧ ∀ j oe, (j, oe) ∈ own → oe.owner = false) ∨ (us = fresh d ++ [.t d (sv, own)] ∧ sv.refs (.t d) = false ∧ Z4l (.t d) own = false) := by
 unfold putT at h
 split at h
 ·rename_i hx; cases h; exact .inl ⟨rfl, Zhv hx⟩
 ·split at h
  ·cases h
  ·rename_i hx
   cases h
   simp only [Bool.or_eq_false_iff] at hx
   exact .inr ⟨rfl, hx.1, hx.2⟩
theorem Zms {p : OP} {e : TypeId} (he : (Z4x P e).isSome = true) (hp : G.pv p = .slice none 0 0) : Own P G w p (.app e) (.slice none 0 0) := by
 obtain ⟨s, hs⟩ := Option.isSome_iff_exists.1 he
 exact ⟨hp, [], ⟨s, 0, [], hs, World.ownsRow_nil w 0 e s, rfl, by simp⟩, by simp⟩
theorem Zz1 (hI : Inv E L a w G) (hd : o.dst = some d) (hlt : d < E.n) {x : Operand} (ho : o.op = .move x ∨ o.op = .assign x) (hop : Zy0 E.P L d o.type x h = some (ups, obs)) : Does E L o a w ups := by
 unfold Zy0 at hop
 split at hop
 ·rename_i sv own pre hg
  split at hop
  ·rename_i us hus
   cases hop
   refine Zg hd (v := a.eval x) (w' := w) (by rcases ho with ho | ho <;> simp [execOp, ho]) ?_
   have hG := Z8v hI hg
   by_cases hnil : Zcv x = true
   ·have hx : x = .const (.slice none 0 0) := by
     unfold Zcv at hnil
     split at hnil
     ·rfl
     ·cases hnil
    subst hx
    have hp : sv = .v (.sl []) ∧ pre = [] := by
     simp [grab, ev, Zkm, Zcs] at hg
     exact ⟨hg.1.symm, hg.2.2⟩
    obtain ⟨rfl, rfl⟩ := hp
    have hrel : Rel G.X w (.sl []) (.slice none 0 0) := ⟨none, 0, 0, rfl, rfl, Nat.le_refl _, .inl rfl⟩
    rcases Zry hus with ⟨rfl, hno⟩ | ⟨rfl, _, _⟩
    ·exact ⟨G, hI.setT hlt (sv := .v (.sl [])) hrel (fun j oe hj => by
      have h1 := hno j oe hj
      unfold Zod at hj
      rw [hnil] at hj
      simp only [] at hj
      split at hj
      ·split at hj
       ·simp at hj; obtain ⟨rfl, rfl⟩ := hj; cases h1
       ·cases hj
      ·cases hj)⟩
    ·obtain ⟨h2, av2⟩ := hI.fresh hlt
     have hS : Stp (DR (.t d)) w w G (G.hand id (pvT G.pv d (.slice none 0 0))) := Stp.hand hI (fun p hp => rfl) (fun p hp => Zj3 hp) (fun i j => rfl)
     have h3 := h2.step' av2 hS
     refine ⟨_, h3.setT hlt (sv := .v (.sl [])) hrel (fun j oe hj => ?_)⟩
     unfold Zod at hj
     rw [hnil] at hj
     simp only [] at hj
     split at hj
     ·split at hj
      ·rename_i he
       simp at hj; obtain ⟨rfl, rfl⟩ := hj
       exact ⟨_, rfl, Zms he (Zj4 rfl)⟩
      ·cases hj
     ·cases hj
   ·have hno : Zod E.P o.type x own = own := by
     unfold Zod
     cases hb : Zcv x with
     | true => exact absurd hb hnil
     | false => rfl
    rw [hno] at hus
    cases hG with
    | seen hr hoo =>
     have := Zt7 hus (fun j oe hj => (hoo j oe hj).1)
     subst this
     exact ⟨G, hI.setT hlt hr (fun j oe hj => by obtain ⟨_, u, hu, h⟩ := hoo j oe hj; exact ⟨u, hu, h _⟩)⟩
    | taken t y hx hs ht hn =>
     subst hx; subst hs
     rcases Zry hus with ⟨rfl, hno⟩ | ⟨rfl, _, h2⟩
     ·obtain ⟨h1, av1⟩ := hI.clear ht
      obtain ⟨_, hr, hoo⟩ := hI.tm t _ _ ht
      exact ⟨G, h1.setT hlt (sv := .v y) hr (fun j oe hj => by
       obtain ⟨c, hc, hoc⟩ := hoo j oe hj
       exact ⟨c, hc, hoc.al_any (hno j oe hj)⟩)⟩
     ·exact Zxg hI hlt ht hn h2
  ·cases hop
 ·cases hop
theorem Zz0 (hI : Inv E L a w G) (hlt : d < E.n) {x : Operand} (hop : Zt9 L d x = some (ups, obs)) : SR E (L.upds ups) (a.put (some d) (a.eval x)) w := by
 unfold Zt9 at hop
 split at hop
 ·rename_i sv own pre hg
  cases hop
  have hG := Z8v hI hg
  cases hG with
  | seen hr hoo => exact ⟨G, hI.setT hlt hr (fun j oe hj => by obtain ⟨_, u, hu, h⟩ := hoo j oe hj; exact ⟨u, hu, h _⟩)⟩
  | taken t y hx hs ht hn =>
   subst hx
   simp [grab, ht, memN] at hg
 ·cases hop
end Go.Bv

namespace Go.Bv
open Go.RowKit
variable {E : Env} {P : Program} {n : Nat} {L L' : Look} {a : Act} {w w' : World} {G G' : Gho} {D D' : LP → Prop} {o : Oper} {d : Nat} {h : Hint} {ups : List Upd} {obs : List Prop}
def Gho.grow (G : Gho) (b0 : Nat) (x : Option Nat) (l : Option LP) (ρ : OP → OP) (bx' : Nat → Nat) (pv' : OP → Value) : Gho where
 X := fun b => if b = b0 then x else G.X b
 bx := bx'
 lab := fun b => if b = b0 then l else (G.lab b).map (LP.to ρ)
 pv := pv'
theorem Z7t (w : World) (ob : Obj) (k : Nat) (h : k < w.heap.size) : (w.alloc ob).heap[k]? = w.heap[k]? := Below.heap_alloc w ob k h
theorem Stp.alloc (h : Inv E L a w G) (ob : Obj) (x : Option Nat) (l : Option LP) {ρ : OP → OP} {bx' : Nat → Nat} {pv' : OP → Value} (hρ : ∀ p, ¬ D (.own p) → ρ p = p) (hbx : ∀ d, ¬ D (.ptr d) → bx' d = G.bx d)
  (hpv : ∀ p, ¬ D (.own p) → pv' p = G.pv p) (hpin : ∀ i j, pv' (.a i j) = G.pv (.a i j)) (hbp : ∀ d, 1000000 ≤ d → bx' d = G.bx d) : Stp D w (w.alloc ob) G (G.grow w.heap.size x l ρ bx' pv') := by
 have hne : ∀ b, b < w.heap.size → b ≠ w.heap.size := fun b hb => by omega
 refine ⟨rfl, rfl, rfl, by simp, ?_, ⟨?_, ?_⟩, fun b hb => (h.new b hb).2, ?_, ?_, hbx, hpv, ⟨hpin, hbp⟩⟩
 ·intro b hb hp
  refine ⟨Z7t w ob b hb, by simp [Gho.grow, hne b hb], ?_⟩
  simp only [Gho.grow, if_neg (hne b hb)]
  cases hl : G.lab b with
  | none => rfl
  | some p =>
   have := hp p hl
   cases p with
   | box d => rfl
   | ptr d => rfl
   | arg i j => rfl
   | own p => simp [LP.to, hρ p this]
 ·intro b o u hc hk
  have hlt := World.block_lt_of_cell? w ⟨b, o, none⟩ hc
  refine ⟨(Zbs (Z7t w ob b hlt) o).trans hc, ?_⟩
  simpa [okc, Gho.grow, hne b hlt] using hk
 ·intro r es k hr hk
  have hlt : r < w.heap.size := (Array.getElem?_eq_some_iff.1 hr).1
  exact ⟨(Z7t w ob r hlt).trans hr, by simpa [Gho.grow, hne r hlt] using hk⟩
 ·intro b hb
  simp only [World.size_alloc] at hb
  have := h.new b (by omega)
  simp [Gho.grow, show b ≠ w.heap.size by omega, this.1, this.2]
 ·intro b p hp
  by_cases e : b = w.heap.size
  ·exact .inr (by omega)
  ·simp only [Gho.grow, if_neg e, Option.map_eq_some_iff] at hp
   obtain ⟨q, hq, _⟩ := hp
   exact .inl ⟨q, hq⟩
theorem Rs.grow {x : Option Nat} {l : Option LP} {ρ : OP → OP} {bx' : Nat → Nat} {pv' : OP → Value} {ob : Obj} (hn : ∀ b, w.heap.size ≤ b → G.lab b = none) {oe : OE} {u : Value} {F : List Nat} (hr : Rs P G.X w oe u F)
  (hE : Ext G.X w (G.grow w.heap.size x l ρ bx' pv').X (w.alloc ob)) : Rs P (G.grow w.heap.size x l ρ bx' pv').X (w.alloc ob) oe u F :=
 hr.stay (fun b hb => ⟨Z7t w ob b (hr.lt b hb), by have := hr.lt b hb; simp [Gho.grow, show b ≠ w.heap.size by omega]⟩) hE
theorem Own.grow {x : Option Nat} {l : Option LP} {ρ : OP → OP} {bx' : Nat → Nat} {pv' : OP → Value} {ob : Obj} {p q : OP} {oe : OE} {u : Value} (hn : ∀ b, w.heap.size ≤ b → G.lab b = none) (ho : Own P G w p oe u) (hw : oe.owner = true)
  (hE : Ext G.X w (G.grow w.heap.size x l ρ bx' pv').X (w.alloc ob)) (hq : ρ p = q) (hv : pv' q = u) : Own P (G.grow w.heap.size x l ρ bx' pv') (w.alloc ob) q oe u := by
 have key : (G.pv p = u ∧ ∃ F, Rs P G.X w oe u F ∧ ∀ b ∈ F, G.lab b = some (.own p)) → ((G.grow w.heap.size x l ρ bx' pv').pv q = u ∧ ∃ F, Rs P (G.grow w.heap.size x l ρ bx' pv').X (w.alloc ob) oe u F ∧ ∀ b ∈ F, (G.grow w.heap.size x l ρ bx' pv').lab b = some (.own q)) := by
  rintro ⟨_, F, h2, h3⟩
  refine ⟨hv, F, h2.grow hn hE, fun b hb => ?_⟩
  have := h2.lt b hb
  simp [Gho.grow, show b ≠ w.heap.size by omega, h3 b hb, LP.to, hq]
 cases oe with
 | app e => exact key ho
 | ex e dp xs => exact key ho
 | al q π => cases hw
 | sb q π lo sz n => cases hw
def Look.noB (L : Look) (d : Nat) : Look := { L with b := fun k => if k = d then none else L.b k }
theorem Zcf {x : BX} : (L.noB d).upd (.b d x) = L.upd (.b d x) := by
 simp only [Look.noB, Look.upd]
 congr 1
 funext k
 by_cases e : k = d <;> simp [e]
theorem Sub.noB (L : Look) (d : Nat) : Sub (fun _ => False) (L.noB d) L := by
 refine ⟨fun s sv own hs => ⟨own, hs, Z7o, fun j oe hj => ⟨hj, Z1i⟩⟩, fun k x hk => ⟨fun h => h.elim id id, x, ?_, ?_⟩, fun i own hi => ⟨own, hi, fun j oe hj => ⟨hj, Z1i⟩⟩⟩
 ·simp only [Look.noB] at hk
  split at hk
  ·cases hk
  ·exact hk
 ·cases x with
  | cells cs own => exact ⟨rfl, fun j oe hj => ⟨hj, Z1i⟩⟩
  | map ks vs => exact ⟨rfl, rfl⟩
  | part m cs => exact ⟨rfl, rfl⟩
  | ref q => exact ⟨rfl, fun h => h⟩
theorem Inv.clearB (h : Inv E L a w G) (d : Nat) : Inv E ((L.upd (.f (.bp d))).noB d) a w G ∧ Av (DR (.bp d)) ((L.upd (.f (.bp d))).noB d) := by
 refine ⟨(h.forget _).less (Sub.noB _ _), ?_⟩
 have e : (L.upd (.f (.bp d))).noB d = (L.noB d).upd (.f (.bp d)) := by
  simp only [Look.noB, Look.upd]
  congr 1
  funext k
  by_cases e : k = d <;> simp [e]
 rw [e]
 refine Av.ref ?_ ?_ ?_
 ·intro s sv own hs _ j oe _ _ hd; exact hd
 ·intro k x hk _
  have hne : k ≠ d := by
   intro e; subst e
   simp [Look.noB] at hk
  exact ⟨fun h => h.elim hne hne, fun cs own _ j oe _ _ h => hne h⟩
 ·intro i own _ _ j oe _ _ h; exact h
def pvB (pv : OP → Value) (d : Nat) (us : List Value) : OP → Value
 | .b k j => if k = d then (us[j]?).getD undef else pv (.b k j)
 | p => pv p
theorem Zo8 {pv : OP → Value} {d : Nat} {us : List Value} {p : OP} (h : ¬ DR (.bp d) (.own p)) : pvB pv d us p = pv p := by
 cases p with
 | t k j => rfl
 | b k j => simp only [DR] at h; simp [pvB, h]
 | a k j => rfl
theorem Zrx {pv : OP → Value} {d j : Nat} {us : List Value} {c : Value} (h : us[j]? = some c) : pvB pv d us (.b d j) = c := by
 simp only [pvB, if_true, h, Option.getD_some]
theorem Inv.newBox (hI : Inv E L a w G) (hd : d < E.n) {D : LP → Prop} (hav : Av D L) (hD : ∀ p, DR (.bp d) p → D p) {us : Array Value} {cs : List AV} {T : TypeId} {own : OwnL} {ρ : OP → OP} (hρ : ∀ p, ¬ D (.own p) → ρ p = p)
  (hρa : True) (hrel : RelL G.X w cs us.toList)
  (ho : ∀ j oe, (j, oe) ∈ own → ∃ c, us[j]? = some c ∧ ((oe.owner = true ∧ ∃ p, ρ p = .b d j ∧ Own E.P G w p oe c) ∨ (oe.owner = false ∧ okE D (.b d j) oe ∧ Own E.P G w (.b d j) oe c))) :
  SR E ((L.upd (.b d (.cells cs own))).upd (.t d (.ptr d 0, []))) (a.put (some d) (.pointer (some ⟨w.heap.size, 0, none⟩))) (w.alloc (.cells us T)) := by
 let bx' : Nat → Nat := fun k => if k = d then w.heap.size else G.bx k
 have hS : Stp D w (w.alloc (.cells us T)) G (G.grow w.heap.size (some 0) (some (.box d)) ρ bx' (pvB G.pv d us.toList)) :=
  Stp.alloc hI _ _ _ hρ (fun k hk => by
   have : k ≠ d := fun e => hk (hD _ (by rw [e]; exact rfl))
   simp [bx', this]) (fun p hp => Zo8 (fun h => hp (hD _ h))) (fun i j => rfl) (fun k hk => by
   have := hI.pin.2.1
   have : k ≠ d := by omega
   simp [bx', this])
 have h1 := hI.step' hav hS
 have hbx : (G.grow w.heap.size (some 0) (some (.box d)) ρ bx' (pvB G.pv d us.toList)).bx d = w.heap.size := by simp [Gho.grow, bx']
 have hnew : (w.alloc (.cells us T)).heap[w.heap.size]? = some (.cells us T (0, 0)) := heap_alloc_new w _
 have h2 := h1.setB (d := d) (x := .cells cs own) (by rw [hbx]; simp [Gho.grow, BX.lim]) (by rw [hbx]; simp [Gho.grow]) ⟨us, T, by rw [hbx]; exact hnew, RelL.mono hS.ext _ _ hrel, fun j oe hj => by
  obtain ⟨c, hc, hoc⟩ := ho j oe hj
  refine ⟨c, hc, ?_⟩
  rcases hoc with ⟨hw, p, hp, hoc⟩ | ⟨hw, hk, hoc⟩
  ·exact hoc.grow (fun b hb => (hI.new b hb).2) hw hS.ext hp (Zrx (by simpa using hc))
  ·exact hS.own hk hoc⟩
 exact ⟨_, h2.setT hd (sv := .ptr d 0) (by rw [RelS, hbx]) (fun j oe hj => by cases hj)⟩
theorem Zhb {T : TypeId} {i : TypeInfo} {z : Value} (hi : P.info? T = some i) (hz : i.zero = some z) {j : Nat} {oe : OE} (hj : (j, oe) ∈ Zgd P T) : z.cells[j]? = some (.slice none 0 0) ∧ ∃ e, oe = .app e ∧ (Z4x P e).isSome = true := by
 simp only [Zgd, hi, Option.bind_some, hz, List.mem_map, List.mem_filter] at hj
 obtain ⟨⟨q1, q2⟩, ⟨_, h2⟩, h3⟩ := hj
 cases h3
 split at h2
 ·rename_i hv; exact ⟨hv, q2, rfl, h2⟩
 ·cases h2
theorem Z104 (hI : Inv E L a w G) (hd : o.dst = some d) (hlt : d < E.n) {T : TypeId} (ho : o.op = .alloc T) (hop : Zvf E.P d T = some (ups, obs)) : Does E L o a w ups := by
 unfold Zvf at hop
 split at hop
 ·rename_i zs hz
  cases hop
  obtain ⟨i, z, hi, hzz, hc⟩ := Zdu hz
  refine Zg hd (v := .pointer (some ⟨w.heap.size, 0, none⟩)) (w' := w.alloc (.cells z.cells T)) (by simp [execOp, ho, Instr.alloc, Z9c hi hzz, newVar, newRow]) ?_
  obtain ⟨h1, av1⟩ := hI.clearB d
  -- the nil slices get their place first
  have hS : Stp (DR (.bp d)) w w G (G.hand id (pvB G.pv d z.cells.toList)) := Stp.hand hI (fun p hp => rfl) (fun p hp => Zo8 hp) (fun i j => rfl)
  have h2 := h1.step' av1 hS
  have := h2.newBox hlt av1 (fun p hp => hp) (us := z.cells) (T := T) (cs := zs) (own := Zgd E.P T) (ρ := id) (fun p hp => rfl) trivial (Z91 hc) (fun j oe hj => by
   obtain ⟨h3, e, rfl, h4⟩ := Zhb hi hzz hj
   exact ⟨_, h3, .inl ⟨rfl, .b d j, rfl, Zms h4 (Zrx (by simpa using h3))⟩⟩)
  rw [Zcf] at this
  exact this
 ·cases hop
theorem Z4j {u : Value} (h : ∀ vs, u ≠ .tuple vs) : Value.flat u = u.cells.toList := by
 cases u <;> first | rfl | exact absurd rfl (h _)
theorem Z3p {X : Gh} {x : AV} {u : Value} (h : Rel X w x u) (hs : x.solid = true) : ∀ vs, u ≠ .tuple vs := by
 intro vs e
 subst e
 cases x with
 | int k m => cases h
 | bool b => cases h
 | str s => cases h
 | agg cs => obtain ⟨us, e, _⟩ := h; cases e
 | tup cs => simp [AV.solid] at hs
 | sl xs => obtain ⟨A, len, cap, e, _⟩ := h; cases e
 | vptr cs => obtain ⟨b, f, e, _⟩ := h; cases e
 | func f cs => obtain ⟨us, e, _⟩ := h; cases e
 | mp ks vs => obtain ⟨r, es, k, e, _⟩ := h; cases e
 | slx => obtain ⟨A, len, cap, e⟩ := h; cases e
 | raw _ => obtain ⟨_, A, len, cap, e⟩ := h; cases e
 | nil b => cases b <;> cases h
 | undef => simp [AV.solid] at hs
theorem Z2t {X : Gh} {x : AV} {u : Value} (h : Rel X w x u) (hs : x.solid = true) : RelL X w x.cells u.cells.toList :=
 h.cells (by intro e; subst e; simp [AV.solid] at hs) (by intro vs e; subst e; simp [AV.solid] at hs)
def Zlp (t d off : Nat) : OP → OP
 | .t k j => if k = t then .b d (off + j) else .t k j
 | p => p
theorem Z138 (hI : Inv E L a w G) (hd : o.dst = some d) (hlt : d < E.n) {T : TypeId} {x : Operand} (ho : o.op = .box T x) (hop : oBox L d x h = some (ups, obs)) : Does E L o a w ups := by
 unfold oBox at hop
 split at hop
 ·rename_i av own pre hg
  split at hop
  ·rename_i hc
   cases hop
   rw [Bool.and_eq_true, Bool.not_eq_true'] at hc
   obtain ⟨hsol, hnr⟩ := hc
   have hexec : (execOp a.eval o).run E.P w = .ok (.value (.pointer (some ⟨w.heap.size, 0, none⟩))) (w.alloc (.cells (a.eval x).cells T)) := by
    simp [execOp, ho, Instr.box, newVar, newRow]
   refine Zg hd hexec ?_
   have hG := Z8v hI hg
   cases hG with
   | seen hr hoo =>
    obtain ⟨h1, av1⟩ := hI.clearB d
    have := h1.newBox hlt av1 (fun p hp => hp) (us := (a.eval x).cells) (T := T) (cs := av.cells) (own := own) (ρ := id) (fun p hp => rfl) trivial (Z2t hr hsol) (fun j oe hj => by
     obtain ⟨h2, u, hu, h3⟩ := hoo j oe hj
     rw [Z4j (Z3p hr hsol)] at hu
     exact ⟨u, by simpa using hu, .inr ⟨h2, Z6j (Zi hnr j oe hj) (fun h => by rw [h2] at h; cases h), h3 _⟩⟩)
    rw [Zcf] at this
    exact this
   | taken t y hx hs ht hn =>
    subst hx; cases hs
    obtain ⟨_, hr, hoo⟩ := hI.tm t _ _ ht
    obtain ⟨h1, av1⟩ := hI.clear ht
    obtain ⟨h2, av2⟩ := h1.clearB d
    have av1' : Av (DR (.t t)) (((((L.upd (.f (.t t))).upd (.t t (.v av, []))).upd (.f (.bp d)))).noB d) := by
     have := av1.f (.bp d)
     refine ⟨this.t, fun k x hk => this.b k x ?_, this.g⟩
     simp only [Look.noB] at hk
     split at hk
     ·cases hk
     ·exact hk
    have := h2.newBox hlt (av1'.or av2) (fun p hp => .inr hp) (us := (a.eval (.tmp t)).cells) (T := T) (cs := av.cells) (own := own) (ρ := Zlp t d 0) (fun p hp => by
      simp only [not_or] at hp
      cases p with
      | t k j => simp only [DR] at hp; simp [Zlp, hp.1]
      | b k j => rfl
      | a k j => rfl) trivial (Z2t hr hsol) (fun j oe hj => by
     obtain ⟨c, hc, hoc⟩ := hoo j oe hj
     have hc' : (Value.flat (a.eval (.tmp t)))[j]? = some c := hc
     rw [Z4j (Z3p (u := a.eval (.tmp t)) hr hsol)] at hc'
     refine ⟨c, by rw [← Array.getElem?_toList]; exact hc', ?_⟩
     cases hw : oe.owner with
     | true => exact .inl ⟨rfl, .t t j, by simp [Zlp], hoc⟩
     | false => exact .inr ⟨rfl, okE.or (Ze5 (d := d) hn hj hw) (Z6j (Zi hnr j oe hj) (fun h => by rw [hw] at h; cases h)), hoc.al_any hw⟩)
    rw [Zcf] at this
    exact this
  ·cases hop
 ·cases hop
end Go.Bv

namespace Go.Bv
open Go.RowKit
variable {E : Env} {P : Program} {n : Nat} {L L' : Look} {a : Act} {w w' : World} {G G' : Gho} {D D' : LP → Prop} {o : Oper} {d : Nat} {h : Hint} {ups : List Upd} {obs : List Prop}
theorem Zjr {lo n j : Nat} : Zb6 lo n j = true ↔ lo ≤ j ∧ j < lo + n := by
 simp only [Zb6, Bool.and_eq_true, Nat.ble_eq, Nat.blt]
 constructor <;> rintro ⟨h1, h2⟩ <;> exact ⟨h1, by omega⟩
theorem Z7r {lo n : Nat} : ∀ {own : OwnL} {j : Nat} {x : OE}, (j, x) ∈ cutO lo n own → (lo + j, x) ∈ own ∧ j < n
 | [], j, x, h => by cases h
 | (k, y) :: l, j, x, h => by
  simp only [cutO] at h
  split at h
  ·rename_i hr
   obtain ⟨h1, h2⟩ := Zjr.1 hr
   rcases List.mem_cons.1 h with h | h
   ·cases h
    exact ⟨by rw [show lo + (k - lo) = k by omega]; exact List.mem_cons_self, by omega⟩
   ·obtain ⟨h3, h4⟩ := Z7r h; exact ⟨List.mem_cons_of_mem _ h3, h4⟩
  ·obtain ⟨h3, h4⟩ := Z7r h; exact ⟨List.mem_cons_of_mem _ h3, h4⟩
theorem Z6r {lo n : Nat} : ∀ {own : OwnL} {j : Nat} {x : OE}, (j, x) ∈ Zbz lo n own → (j, x) ∈ own ∧ ¬ (lo ≤ j ∧ j < lo + n)
 | [], j, x, h => by cases h
 | (k, y) :: l, j, x, h => by
  simp only [Zbz] at h
  split at h
  ·obtain ⟨h3, h4⟩ := Z6r h; exact ⟨List.mem_cons_of_mem _ h3, h4⟩
  ·rename_i hr
   rcases List.mem_cons.1 h with h | h
   ·cases h
    exact ⟨List.mem_cons_self, fun hh => by rw [Zjr.2 hh] at hr; cases hr⟩
   ·obtain ⟨h3, h4⟩ := Z6r h; exact ⟨List.mem_cons_of_mem _ h3, h4⟩
theorem Ze6 {off : Nat} : ∀ {own : OwnL} {j : Nat} {x : OE}, (j, x) ∈ Ziv off own → ∃ i, j = off + i ∧ (i, x) ∈ own
 | [], j, x, h => by cases h
 | (k, y) :: l, j, x, h => by
  rcases List.mem_cons.1 h with h | h
  ·cases h; exact ⟨k, rfl, List.mem_cons_self⟩
  ·obtain ⟨i, h1, h2⟩ := Ze6 h; exact ⟨i, h1, List.mem_cons_of_mem _ h2⟩
theorem Zii {ag : Bool} {off s len : Nat} (h : fitB ag off s len = true) : off + s ≤ len ∧ (ag = true ∨ s = 1) := by
 simp only [fitB, Bool.and_eq_true, Bool.or_eq_true, Nat.ble_eq] at h
 exact ⟨h.1, h.2.imp id Nat.eq_of_beq_eq_true⟩
theorem Zah {ag : Bool} {us : List Value} {u : Value} (hu : if ag then u = .agg us.toArray else us = [u]) {j : Nat} {c : Value} (hc : us[j]? = some c) (hs : ag = true ∨ ∃ A l k, c = .slice A l k) : (Value.flat u)[j]? = some c := by
 cases ag with
 | true => simp at hu; subst hu; simpa [Value.flat, Value.cells] using hc
 | false =>
  simp at hu hs
  subst hu
  obtain ⟨A, l, k, rfl⟩ := hs
  cases j with
  | zero => simp at hc; subst hc; rfl
  | succ j => simp at hc
def Zzd (k off s d : Nat) : OP → OP
 | .b i j => if i = k ∧ off ≤ j ∧ j < off + s then .t d (j - off) else .b i j
 | p => p
def DBr (k off s : Nat) : LP → Prop
 | .own (.b i j) => i = k ∧ off ≤ j ∧ j < off + s
 | _ => False
theorem Zku {k off s : Nat} {q : LP} (h : DBr k off s q) : DR (.b k) q := by
 cases q with
 | box d => exact h
 | ptr d => exact h
 | arg i j => exact h
 | own p =>
  cases p with
  | t s j => exact h
  | b i j => exact h.1
  | a i j => exact h
theorem Inv.clearBr (hI : Inv E L a w G) {k off s : Nat} {cs : List AV} {own : OwnL} (hb : L.b k = some (.cells cs own)) (hn : Z4l (.b k) own = false) :
  Inv E ((L.upd (.f (.b k))).upd (.b k (.cells cs (Zbz off s own)))) a w G ∧ Av (DBr k off s) ((L.upd (.f (.b k))).upd (.b k (.cells cs (Zbz off s own)))) := by
 obtain ⟨h1, h2, us, e, h3, h4⟩ := hI.bo k _ hb
 refine ⟨(hI.forget (.b k)).setB h1 h2 ⟨us, e, h3, h4.rel, fun j oe hj => h4.own j oe (Z6r hj).1⟩, ?_⟩
 -- with box k left out, nothing hangs on it
 have key : Av (DR (.b k)) ((L.noB k).upd (.f (.b k))) := by
  refine Av.ref ?_ ?_ ?_
  ·intro s sv own hs _ j oe _ _ hd; exact hd
  ·intro i x hi _
   refine ⟨fun h => h.elim id id, fun cs own hx j oe _ _ hd => ?_⟩
   have : i = k := hd
   subst this
   simp [Look.noB] at hi
  ·intro i own _ _ j oe _ _ h; exact h
 have key' := key.mono (D' := DBr k off s) (fun q hq => Zku hq)
 refine ⟨fun s sv own hs => key'.t s sv own hs, ?_, fun i own hi => key'.g i own hi⟩
 intro i x hi
 by_cases e : i = k
 ·subst e
  simp only [Look.upd, if_pos] at hi
  cases hi
  refine ⟨fun h => h.elim id id, fun j oe hj => ?_⟩
  obtain ⟨hj1, hj2⟩ := Z6r hj
  have hr := Zi hn j oe hj1
  cases oe with
  | app e => exact fun hd => hj2 hd.2
  | ex e dp xs => exact fun hd => hj2 hd.2
  | al q π => exact Zv8 hr fun hd => Zku hd
  | sb q π lo sz n => intro hd; have := Zav (Zku hd); simp [OE.refs, this.1, this.2] at hr
 ·simp only [Look.upd, if_neg e] at hi
  refine key'.b i x ?_
  refine f_b.2 ?_
  obtain ⟨h5, h6⟩ := f_b.1 hi
  exact ⟨by simp [Look.noB, e, h5], h6⟩
theorem At.append {lab : Nat → Option LP} {p : OP} : ∀ {π : Path} {v u u' : Value} {ρ : Path}, At w lab p v π u → At w lab p u ρ u' → At w lab p v (π ++ ρ) u'
 | [], v, u, u', ρ, e, h => by rw [show u = v from e] at h; exact h
 | (i, sz, o) :: π, v, u, u', ρ, ⟨b, len, cap, v', h1, h2, h3, h4, h5⟩, h => ⟨b, len, cap, v', h1, h2, h3, h4, h5.append h⟩
theorem Z8j (hI : Inv E L a w G) {p : OP} {oe : OE} (h : Z6c L p = some oe) (hw : oe.owner = true) : ∃ u, Own E.P G w p oe u := by
 cases p with
 | t s j =>
  simp only [Z6c] at h
  split at h
  ·rename_i sv own hs
   obtain ⟨u, _, ho⟩ := (hI.tm s sv own hs).2.2 j oe (Z3x h)
   exact ⟨u, ho⟩
  ·cases h
 | b s j =>
  simp only [Z6c] at h
  split at h
  ·rename_i cs own hs
   obtain ⟨_, _, us, e, _, h4⟩ := hI.bo s _ hs
   obtain ⟨u, _, ho⟩ := h4.own j oe (Z3x h)
   exact ⟨u, ho⟩
  ·cases h
 | a s j =>
  simp only [Z6c] at h
  split at h
  ·rename_i own hs
   exact ⟨_, hI.gr s own hs j oe (Z3x h)⟩
  ·cases h
structure Held (P : Program) (G : Gho) (w : World) (p : OP) (dp : Bool) (xs : List (List AV)) (u : Value) : Prop where
 row : ∃ e sz us F, Z4x P e = some sz ∧ w.ownsRow 0 e sz u xs.length us ∧ (∀ c ∈ xs, c.length = sz) ∧ (match dp with | true => DVL P w xs.flatten us F | false => RelL G.X w xs.flatten us) ∧ ∀ b ∈ blks u ++ F, G.lab b = some (.own p)
theorem Zew : ∀ {xs : List (List AV)} {sz i o : Nat} {c : List AV}, (∀ c ∈ xs, c.length = sz) → xs[i]? = some c → o < sz → xs.flatten[i * sz + o]? = c[o]?
 | [], _, _, _, _, _, h, _ => by simp at h
 | r :: xs, sz, 0, o, c, hl, h, ho => by
  simp at h; subst h
  have := hl r (by simp)
  rw [List.flatten_cons, Nat.zero_mul, Nat.zero_add, List.getElem?_append_left (by omega)]
 | r :: xs, sz, i + 1, o, c, hl, h, ho => by
  have hr := hl r (by simp)
  rw [List.flatten_cons, Nat.add_mul, Nat.one_mul, List.getElem?_append_right (by omega), show i * sz + sz + o - r.length = i * sz + o by omega]
  exact Zew (fun c hc => hl c (by simp [hc])) (by simpa using h) ho
theorem DVL.get : ∀ {cs : List AV} {us : List Value} {F : List Nat} (i : Nat) {c : AV}, DVL P w cs us F → cs[i]? = some c → ∃ u F', us[i]? = some u ∧ DV P w c u F' ∧ ∀ b ∈ F', b ∈ F
 | [], _, _, _, _, _, h => by simp at h
 | c :: cs, _, _, 0, _, ⟨u, r, F1, F2, e, e2, a, b⟩, h => by subst e; subst e2; simp at h; exact ⟨u, F1, rfl, h ▸ a, fun b hb => by simp [hb]⟩
 | c :: cs, _, _, i + 1, _, ⟨u, r, F1, F2, e, e2, a, b⟩, h => by
  subst e; subst e2
  obtain ⟨v, F', h1, h2, h3⟩ := DVL.get i b (by simpa using h)
  exact ⟨v, F', h1, h2, fun b hb => by simp [h3 b hb]⟩
theorem Zmt {p : OP} {e : TypeId} {dp : Bool} {xs : List (List AV)} {u : Value} (h : Own P G w p (.ex e dp xs) u) : Held P G w p dp xs u := by
 obtain ⟨_, F, ⟨e', sz, us, F', _, h1, h2, h3, h4, rfl, _, _⟩, h6⟩ := h
 refine ⟨e', sz, us, F', h1, h2, h3, ?_, h6⟩
 cases dp with
 | true => exact h4
 | false => exact h4.2
theorem Held.cell {p : OP} {dp : Bool} {xs : List (List AV)} {u : Value} (h : Held P G w p dp xs u) {i : Nat} {c : List AV} (hi : xs[i]? = some c) :
  ∃ b len cap, u = .slice (some ⟨b, 0, none⟩) len cap ∧ G.lab b = some (.own p) ∧ len = xs.length ∧ i < len ∧ ∀ (off s : Nat), off + s ≤ c.length → ∃ vs : List Value, vs.length = s ∧ Z8c w b (i * c.length + off) vs ∧
   (match dp with | true => ∀ (j : Nat) (x : AV), ((c.drop off).take s)[j]? = some x → ∃ v F, vs[j]? = some v ∧ DV P w x v F ∧ ∀ b ∈ F, G.lab b = some (.own p) | false => RelL G.X w ((c.drop off).take s) vs) := by
 obtain ⟨e, sz, us, F, h1, h2, h3, h4, h5⟩ := h.row
 have hlt : i < xs.length := (List.getElem?_eq_some_iff.1 hi).1
 have hc : c.length = sz := h3 c (List.mem_of_getElem? hi)
 rcases h2.2 with ⟨_, h0⟩ | ⟨g, cap, cur, rfl, _, hg, _⟩
 ·omega
 ·refine ⟨g, _, cap, rfl, h5 g (by simp [blks, Value.ownBlock]), rfl, hlt, ?_⟩
  intro off s hfit
  have hlen : xs.flatten.length = xs.length * sz := by
   have := h2.1
   cases dp with
   | true => rw [← h4.length]; exact this
   | false => rw [← RelL.length h4]; exact this
  have hmul : i * sz + sz ≤ xs.length * sz := by
   have := Nat.mul_le_mul_right sz (show i + 1 ≤ xs.length from hlt)
   rwa [Nat.add_mul, Nat.one_mul] at this
  have hus : us.length = xs.length * sz := h2.1
  have hcell : ∀ j v, us[j]? = some v → w.cell? ⟨g, j, none⟩ = some v := fun j v hj => by
   have := h2.cells (g := g) rfl j v hj
   rwa [add_lit, Nat.zero_add] at this
  refine ⟨(us.drop (i * c.length + off)).take s, by rw [List.length_take, List.length_drop, hc]; omega, ?_, ?_⟩
  ·intro j v hj
   rw [List.getElem?_take] at hj
   split at hj
   ·rw [List.getElem?_drop] at hj; exact hcell _ _ hj
   ·cases hj
  ·have hget : ∀ j, j < s → xs.flatten[i * sz + off + j]? = (c.drop off)[j]? := fun j hj => by
    rw [List.getElem?_drop, Nat.add_assoc]
    exact Zew h3 hi (by omega)
   cases dp with
   | true =>
    intro j x hx
    rw [List.getElem?_take] at hx
    split at hx
    ·rename_i hjs
     rw [← hget j hjs] at hx
     obtain ⟨v, F', h6, h7, h8⟩ := DVL.get _ h4 hx
     refine ⟨v, F', ?_, h7, fun b hb => h5 b (by simp [h8 b hb])⟩
     rw [List.getElem?_take, if_pos hjs, List.getElem?_drop, hc]; exact h6
    ·cases hx
   | false =>
    have h6 : RelL G.X w ((xs.flatten.drop (i * sz + off)).take s) ((us.drop (i * sz + off)).take s) := (RelL.drop _ h4).take s
    rw [hc]
    have h7 : (xs.flatten.drop (i * sz + off)).take s = (c.drop off).take s := by
     apply List.ext_getElem?
     intro j
     rw [List.getElem?_take, List.getElem?_take]
     split
     ·rename_i hjs; rw [List.getElem?_drop]; exact hget j hjs
     ·rfl
    rw [← h7]; exact h6
theorem DV.held {p : OP} {xs : List (List AV)} {v : Value} {F : List Nat} (h : DV P w (.sl xs) v F) (hl : ∀ b ∈ F, G.lab b = some (.own p)) : Held P G w p true xs v := by
 obtain ⟨e, sz, us, F', h1, h2, h3, rfl⟩ := h
 exact ⟨e, sz, us, F', h1, h2, (Zdt.1 h3).1, (Zdt.1 h3).2, hl⟩
theorem Held.path {p : OP} : ∀ {π : Path} {xs ys : List (List AV)} {u v : Value}, Held P G w p true xs u → getC xs π = some ys → At w G.lab p u π v → Held P G w p true ys v
 | [], xs, ys, u, v, h, hg, ha => by
  simp only [getC] at hg; cases hg
  rw [show v = u from ha]; exact h
 | (i, sz, o) :: π, xs, ys, u, v, h, hg, ⟨b, len, cap, v', h1, h2, h3, h4, h5⟩ => by
  simp only [getC] at hg
  split at hg
  ·rename_i c hc
   split at hg
   ·rename_i zs hs hz
    have hsz := Nat.eq_of_beq_eq_true hs
    obtain ⟨b', len', cap', e1, e2, e3, e4, h6⟩ := h.cell hc
    rw [h1] at e1; cases e1
    have ho : o < c.length := (List.getElem?_eq_some_iff.1 hz).1
    obtain ⟨vs, l1, c1, d1⟩ := h6 o 1 (by omega)
    have hx : ((c.drop o).take 1)[0]? = some (.sl zs) := by
     rw [List.getElem?_take, if_pos (by omega), List.getElem?_drop]; simpa using hz
    obtain ⟨v0, F, f1, f2, f3⟩ := d1 0 _ hx
    have := c1 0 v0 f1
    rw [Nat.add_zero, hsz, h4] at this
    cases this
    exact (f2.held f3).path hg h5
   ·cases hg
  ·cases hg
theorem Z8y (hI : Inv E L a w G) {p : OP} {π : Path} {dp : Bool} {xs : List (List AV)} {ob : List Prop} {h : Hint} (hc : Zg5 L p π h = some (dp, xs, ob)) (hob : ∀ q ∈ ob, q) {u : Value} (hu : At w G.lab p (G.pv p) π u) :
  Held E.P G w p dp xs u := by
 unfold Zg5 at hc
 split at hc
 ·rename_i e dp' xs' hr
  obtain ⟨v, ho⟩ := Z8j hI hr rfl
  have hv := ho.pv rfl
  subst hv
  have hh := Zmt ho
  split at hc
  ·cases hc
   rw [show u = G.pv p from hu]; exact hh
  ·split at hc
   ·cases hc
    exact hh.path (hob _ (by simp)) hu
   ·cases hc
 ·cases hc
end Go.Bv

namespace Go.Bv
open Go.RowKit
variable {E : Env} {P : Program} {n : Nat} {L L' : Look} {a : Act} {w w' : World} {G G' : Gho} {D D' : LP → Prop} {o : Oper} {d : Nat} {h : Hint} {ups : List Upd} {obs : List Prop}
theorem Inv.setSeen (hI : Inv E L a w G) (hd : d < E.n) {sv : SV} {u : Value} (hs : RelS G w sv u) {own : OwnL} (ho : ∀ j oe, (j, oe) ∈ own → ∃ c, (Value.flat u)[j]? = some c ∧ Own E.P G w (.t d j) oe c) : SR E (L.upds [.t d (sv, own)]) (a.put (some d) u) w :=
 ⟨G, hI.setT hd hs ho⟩
theorem Z111 {X : Gh} {x : AV} {v : Value} {F : List Nat} (h : DV P w x v F) : Rel X w (Zqn x) v := by
 cases x with
 | int k m => exact h.1
 | bool b => exact h.1
 | str s => exact h.1
 | sl xs =>
  obtain ⟨e, sz, us, F', h1, h2, _⟩ := h
  rcases h2.2 with ⟨rfl, _⟩ | ⟨g, cap, cur, rfl, _⟩
  ·exact ⟨_, _, _, rfl⟩
  ·exact ⟨_, _, _, rfl⟩
 | undef => exact h.elim
 | agg _ => exact h.elim
 | tup _ => exact h.elim
 | vptr _ => exact h.elim
 | func _ _ => exact h.elim
 | mp _ _ => exact h.elim
 | slx => exact h.elim
 | raw _ => exact h.elim
 | nil _ => exact h.elim
theorem Zo6 {X : Gh} : ∀ {cs : List AV} {vs : List Value}, vs.length = cs.length → (∀ (j : Nat) (x : AV), cs[j]? = some x → ∃ v F, vs[j]? = some v ∧ DV P w x v F) → RelL X w (cs.map Zqn) vs
 | [], [], _, _ => rfl
 | [], v :: vs, h, _ => by simp at h
 | c :: cs, [], h, _ => by simp at h
 | c :: cs, v :: vs, h, hh => by
  obtain ⟨v', F, h1, h2⟩ := hh 0 c rfl
  simp at h1; subst h1
  exact ⟨v, vs, rfl, Z111 h2, Zo6 (by simpa using h) (fun j x hx => by simpa using hh (j + 1) x (by simpa using hx))⟩
theorem Zlj {X : Gh} : ∀ {cs : List AV} {vs : List Value}, RelL X w cs vs → RelL X w (cs.map Z129) vs
 | [], vs, h => h
 | c :: cs, vs, ⟨v, r, e, h1, h2⟩ => by
  refine ⟨v, r, e, ?_, Zlj h2⟩
  cases c with
  | raw q => exact h1.2
  | _ => exact h1
theorem Zt6 {X : Gh} {own : OwnL} {cs : List AV} {vs : List Value} (h : RelL X w cs vs) : RelL X w (Z10k own cs) vs := by
 cases own with
 | nil => exact h
 | cons a l => exact Zlj h
theorem Zz2 (hI : Inv E L a w G) (hd : o.dst = some d) (hlt : d < E.n) {T : TypeId} {x : Operand} (ho : o.op = .load T x) (hop : Zy1 E.P L d T x h = some (ups, obs)) (hob : ∀ p ∈ obs, p) : Does E L o a w ups := by
 unfold Zy1 at hop
 split at hop
 ·-- a box
  rename_i ag s k off own1 hag hs hx
  have hu : a.eval x = .pointer (some ⟨G.bx k, off, none⟩) := Z6s hI hx
  split at hop
  ·rename_i cs own hb
   split at hop
   ·rename_i v hfit hv
    obtain ⟨hf1, hf2⟩ := Zii hfit
    obtain ⟨_, hX0, us, e, hheap, hok⟩ := hI.bo k _ hb
    have hlen := hok.rel.length
    have hrel2 : RelL G.X w (Z10k (cutO off s own) ((cs.drop off).take s)) ((us.toList.drop off).take s) := Zt6 ((hok.rel.drop off).take s)
    have hl2 : ((us.toList.drop off).take s).length = s := by rw [List.length_take, List.length_drop, hlen]; omega
    have hc2 : Z8c w (G.bx k) off ((us.toList.drop off).take s) := by
     intro j u hj
     rw [List.getElem?_take] at hj
     split at hj
     ·rw [List.getElem?_drop] at hj
      rw [Z4u hheap]; simpa using hj
     ·cases hj
    obtain ⟨u, hrun, hu2⟩ := Z6w (P := E.P) hag hs hl2 hc2 hf2
    have hexec : (execOp a.eval o).run E.P w = .ok (.value u) w := by simp [execOp, ho, hu, Instr.loadAt, Instr.sureAddr, hrun]
    have hv' := Z60 hv hrel2 hu2
    -- a cell of what was read
    have hcell : ∀ j oe, (j, oe) ∈ cutO off s own → ∃ c, ((us.toList.drop off).take s)[j]? = some c ∧ Own E.P G w (.b k (off + j)) oe c := by
     intro j oe hj
     obtain ⟨h1, h2⟩ := Z7r hj
     obtain ⟨c, hc, hoc⟩ := hok.own _ _ h1
     refine ⟨c, ?_, hoc⟩
     rw [List.getElem?_take, if_pos h2, List.getElem?_drop]; simpa using hc
    have isSl : ∀ j c, ((us.toList.drop off).take s)[j]? = some c → (∃ A l q, c = Value.slice A l q) → (Value.flat u)[j]? = some c := fun j c hc hsl => Zah hu2 hc (by
     rcases hf2 with h | h
     ·exact .inl h
     ·exact .inr hsl)
    have isS : ∀ {p : OP} {oe : OE} {c : Value}, Own E.P G w p oe c → ∃ A l q, c = Value.slice A l q := by
     intro p oe c hoc
     cases oe with
     | app e => exact Z55 hoc rfl
     | ex e dp xs => exact Z55 hoc rfl
     | al q π => exact hoc.2
     | sb q π lo sz n => obtain ⟨⟨A, cap', e⟩, _⟩ := hoc; exact ⟨_, _, _, e⟩
    split at hop
    ·cases hop
     refine Zg hd hexec (hI.setSeen hlt (sv := .v v) hv' (fun j oe hj => ?_))
     have hj' : ∃ y, (j, y) ∈ cutO off s own := by
      rcases (Z9b hj).2 with h1 | ⟨_, y, h1, _⟩
      ·exact ⟨_, h1⟩
      ·exact ⟨y, h1⟩
     obtain ⟨y, hy⟩ := hj'
     obtain ⟨c, hc, hoc⟩ := hcell j y hy
     refine ⟨c, isSl j c hc (isS hoc), Zie hj (fun z hz => ?_)⟩
     obtain ⟨c', hc', hoc'⟩ := hcell j z hz
     rw [hc] at hc'; cases hc'
     exact hoc'
    ·split at hop
     ·cases hop
     ·rename_i hn
      cases hop
      simp only [Bool.or_eq_false_iff] at hn
      refine Zg hd hexec ?_
      obtain ⟨h1, av1⟩ := hI.clearBr (off := off) (s := s) hb hn.1
      obtain ⟨h2, av2⟩ := h1.fresh hlt
      have av1' : Av (DBr k off s) (Look.upds ((L.upd (.f (.b k))).upd (.b k (.cells cs (Zbz off s own)))) (fresh d)) := (av1.f (.t d)).setT trivial (fun j oe hj => by cases hj)
      have hS : Stp (fun q => DBr k off s q ∨ DR (.t d) q) w w G (G.hand (Zzd k off s d) (pvT G.pv d u)) := Stp.hand hI
       (fun p hp => by
        simp only [not_or] at hp
        cases p with
        | t i j => rfl
        | b i j => simp only [DBr] at hp; simp only [Zzd, if_neg hp.1]
        | a i j => rfl)
       (fun p hp => by simp only [not_or] at hp; exact Zj3 hp.2) (fun i j => rfl)
      have h3 := h2.step' (av1'.or av2) hS
      refine ⟨_, h3.setT hlt (sv := .v v) hv' (fun j oe hj => ?_)⟩
      obtain ⟨c, hc, hoc⟩ := hcell j oe hj
      have hfl := isSl j c hc (isS hoc)
      refine ⟨c, hfl, ?_⟩
      cases hw : oe.owner with
      | true => exact hoc.hand hw (by
        have hj2 := (Z7r hj).2
        show (if k = k ∧ off ≤ off + j ∧ off + j < off + s then OP.t d (off + j - off) else OP.b k (off + j)) = _
        rw [if_pos ⟨rfl, by omega, by omega⟩, Nat.add_sub_cancel_left]) (Zj4 hfl)
      | false =>
       refine (hS.own ?_ hoc).al_any hw
       have e1 : okE (DR (.b k)) (.b k (off + j)) oe := Z6j (Zi hn.1 _ oe (Z7r hj).1) (fun h => by rw [hw] at h; cases h)
       exact (e1.mono (fun q hq => Zku hq)).or (Z6j (Zi hn.2 j oe hj) (fun h => by rw [hw] at h; cases h))
   ·cases hop
  ·cases hop
 ·-- memory that stays
  rename_i ag s cs own1 hag hs hx
  obtain ⟨b, off, hu, hrc⟩ := Z6s hI hx
  split at hop
  ·rename_i v hfit hv
   obtain ⟨_, hf2⟩ := Zii hfit
   have hle : s ≤ cs.length := Zce hop hob _ (by simp)
   obtain ⟨us, h1, h2, h3⟩ := Zgj (hrc.take s)
   have hl2 : us.length = s := by rw [h2, List.length_take]; omega
   obtain ⟨u, hrun, hu2⟩ := Z6w (P := E.P) hag hs hl2 h3 hf2
   refine Zg hd (v := u) (w' := w) ?_ (Z5j hI hlt hop hob (Z60 hv h1 hu2))
   simp [execOp, ho, hu, Instr.loadAt, Instr.sureAddr, hrun]
  ·cases hop
 ·-- an element of a slice that is held
  rename_i ag s p π i sz off own1 hag hs hx
  obtain ⟨b, len, cap, hat, hlab, hilen, hu⟩ := Z6s hI hx
  split at hop
  ·rename_i dp xs ob v hc hv
   split at hop
   ·rename_i hfit
    obtain ⟨_, hf2⟩ := Zii hfit
    split at hop
    ·cases hop
     have hh := Z8y hI hc (fun q hq => hob q (by simp [hq])) hat
     obtain ⟨c, hc1, hc2, hc3, hc4⟩ := hob _ (List.mem_append_right _ (List.mem_singleton.2 rfl))
     obtain ⟨b', len', cap', e1, e2, e3, e4, h6⟩ := hh.cell hc1
     cases e1
     obtain ⟨vs, l1, c1, d1⟩ := h6 off s hc3
     rw [hc2] at c1
     obtain ⟨u, hrun, hu2⟩ := Z6w (P := E.P) hag hs l1 c1 hf2
     have hlen' : vs.length = ((c.drop off).take s).length := by rw [l1, List.length_take, List.length_drop]; omega
     have hmask := Zo6 (X := G.X) hlen' (fun j x hj => by obtain ⟨v', F, h7, h8, _⟩ := d1 j x hj; exact ⟨v', F, h7, h8⟩)
     have hrel := Z60 hc4 hmask hu2
     refine Zg hd (v := u) (w' := w) (by simp [execOp, ho, hu, Instr.loadAt, Instr.sureAddr, hrun]) (hI.setSeen hlt (sv := .v v) hrel (fun j oe hj => ?_))
     -- which cells these are
     have hmem : ∀ (cs : List AV) (k j : Nat) (oe : OE), (j, oe) ∈ Zx2 p π i sz off k cs → ∃ q, j = k + q ∧ cs[q]? = some .slx ∧ oe = .al p (π ++ [(i, sz, off + j)]) := by
      intro cs
      induction cs with
      | nil => intro k j oe h; cases h
      | cons x cs ih =>
       intro k j oe h
       have tail : (j, oe) ∈ Zx2 p π i sz off (k + 1) cs → ∃ q, j = k + q ∧ (x :: cs)[q]? = some .slx ∧ oe = .al p (π ++ [(i, sz, off + j)]) := by
        intro h
        obtain ⟨q, h1, h2, h3⟩ := ih (k + 1) j oe h
        exact ⟨q + 1, by omega, by simpa using h2, h3⟩
       cases x with
       | slx =>
        rcases List.mem_cons.1 h with h | h
        ·cases h; exact ⟨0, rfl, rfl, rfl⟩
        ·exact tail h
       | _ => exact tail h
     obtain ⟨q, hq1, hq2, rfl⟩ := hmem _ 0 j oe hj
     have hjq : j = q := by omega
     subst hjq
     -- the cell of the value is the masked cell
     have hvc : v.cells = ((c.drop off).take s).map Zqn := by
      cases hagv : ag with
      | true => rw [hagv] at hc4; simp only [Z7p, if_true, Option.some.injEq] at hc4; rw [← hc4]; rfl
      | false =>
       rw [hagv] at hc4
       unfold Z7p at hc4
       simp only [Bool.false_eq_true, if_false] at hc4
       split at hc4
       ·rename_i z hz
        cases hc4
        rw [hz]
        have hne : ∀ q, v ≠ .agg q := by
         rintro q rfl
         have : (AV.agg q) ∈ (((c.drop off).take s).map Zqn) := by rw [hz]; simp
         obtain ⟨y, hy, e⟩ := List.mem_map.1 this
         obtain ⟨jj, hjj⟩ := List.mem_iff_getElem?.1 hy
         obtain ⟨v', F, _, h8, _⟩ := d1 jj y hjj
         cases y <;> simp [Zqn] at e
         exact h8.elim
        cases v <;> first | rfl | exact absurd rfl (hne _)
       ·cases hc4
     rw [hvc, List.getElem?_map, Option.map_eq_some_iff] at hq2
     obtain ⟨x, hx1, hx2⟩ := hq2
     obtain ⟨v', F, h7, h8, h9⟩ := d1 _ x hx1
     have hsl : ∃ ys, x = .sl ys := by cases x <;> simp [Zqn] at hx2; exact ⟨_, rfl⟩; exact h8.elim
     obtain ⟨ys, rfl⟩ := hsl
     have hvs : ∃ A l k, v' = .slice A l k := by
      obtain ⟨e, sz', us, F', g1, g2, _⟩ := h8
      rcases g2.2 with ⟨rfl, _⟩ | ⟨g, cap, cur, rfl, _⟩ <;> exact ⟨_, _, _, rfl⟩
     refine ⟨v', Zah hu2 h7 (hf2.imp id (fun _ => hvs)), ?_, hvs⟩
     refine hat.append ⟨b, len, cap, v', rfl, hlab, hilen, ?_, rfl⟩
     have := c1 _ v' h7
     rwa [Nat.add_assoc] at this
    ·cases hop
     have hh := Z8y hI hc (fun q hq => hob q (by simp [hq])) hat
     obtain ⟨c, hc1, hc2, hc3, hc4⟩ := hob _ (List.mem_append_right _ (List.mem_singleton.2 rfl))
     obtain ⟨b', len', cap', e1, e2, e3, e4, h6⟩ := hh.cell hc1
     cases e1
     obtain ⟨vs, l1, c1, d1⟩ := h6 off s hc3
     rw [hc2] at c1
     obtain ⟨u, hrun, hu2⟩ := Z6w (P := E.P) hag hs l1 c1 hf2
     exact Zg hd (v := u) (w' := w) (by simp [execOp, ho, hu, Instr.loadAt, Instr.sureAddr, hrun]) (hI.setSeen hlt (sv := .v v) (Z60 hc4 d1 hu2) (fun j oe hj => by cases hj))
   ·cases hop
  ·cases hop
 ·cases hop
end Go.Bv

namespace Go.Bv
open Go.RowKit
variable {E : Env} {P : Program} {n : Nat} {L L' : Look} {a : Act} {w w' : World} {G G' : Gho} {D D' : LP → Prop} {o : Oper} {d : Nat} {h : Hint} {ups : List Upd} {obs : List Prop}
theorem Inv.set0 (hI : Inv E L a w G) (hd : d < E.n) {sv : SV} {u : Value} (hs : RelS G w sv u) : SR E (L.upds [.t d (sv, [])]) (a.put (some d) u) w :=
 hI.setSeen hd hs (fun j oe hj => by cases hj)
theorem Zq7 (hI : Inv E L a w G) (hd : o.dst = some d) (hlt : d < E.n) {S : TypeId} {x : Operand} {f : Nat} (ho : o.op = .fieldAddr S x f) (hop : Zgt E.P L d S x f = some (ups, obs)) : Does E L o a w ups := by
 unfold Zgt at hop
 split at hop
 ·rename_i off ft sv own hf hx
  split at hop
  ·rename_i m hs
   split at hop
   ·rename_i k p
    cases hop
    have hu : a.eval x = .pointer (some ⟨G.bx k, p, none⟩) := Z6s hI hx
    exact Zg hd (v := .pointer (some ⟨G.bx k, p + off, none⟩)) (w' := w) (by simp [execOp, ho, hu, Zen hf hs]) (hI.set0 hlt (sv := .ptr k (p + off)) rfl)
   ·rename_i cs
    cases hop
    obtain ⟨b, p, hu, hr⟩ := Z6s hI hx
    exact Zg hd (v := .pointer (some ⟨b, p + off, none⟩)) (w' := w) (by simp [execOp, ho, hu, Zen hf hs]) (hI.set0 hlt (sv := .v (.vptr (cs.drop off))) ⟨b, p + off, rfl, hr.drop off⟩)
   ·rename_i q π i sz p
    cases hop
    obtain ⟨b, len, cap, h1, h2, h3, hu⟩ := Z6s hI hx
    exact Zg hd (v := .pointer (some ⟨b, i * sz + p + off, none⟩)) (w' := w) (by simp [execOp, ho, hu, Zen hf hs]) (hI.set0 hlt (sv := .el q π i sz (p + off)) ⟨b, len, cap, h1, h2, h3, by rw [Nat.add_assoc]⟩)
   ·cases hop
  ·cases hop
 ·cases hop
theorem Z101 (hI : Inv E L a w G) (hd : o.dst = some d) (hlt : d < E.n) {S : TypeId} {x : Operand} {f : Nat} (ho : o.op = .field S x f) (hop : Zvd E.P L d S x f = some (ups, obs)) : Does E L o a w ups := by
 unfold Zvd at hop
 split at hop
 ·rename_i off ft t hf
  split at hop
  ·rename_i cs own ht
   split at hop
   ·rename_i s ag hs hag
    split at hop
    ·rename_i v hfit hv
     cases hop
     obtain ⟨hf1, hf2⟩ := Zii hfit
     obtain ⟨_, ⟨us, hu, hr⟩, hoo⟩ := hI.tm t _ _ ht
     have hl := hr.length
     obtain ⟨u, hrun, hu2⟩ := Zml (P := E.P) (w := w) (us := us) (off := off) hag hs (by omega) hf2
     obtain ⟨fs, fd, h1, h2, rfl, rfl⟩ := Zjx hf
     have hu' : a.eval (.tmp t) = .agg us.toArray := hu
     refine Zg hd (v := u) (w' := w) (by simp [execOp, ho, hu', Instr.field, Z4g h1, h2, asAgg, hrun]) (hI.setSeen hlt (sv := .v v) (Z60 hv ((hr.drop _).take s) hu2) (fun j oe hj => ?_))
     have isS : ∀ {p : OP} {oe : OE} {c : Value}, Own E.P G w p oe c → ∃ A l q, c = Value.slice A l q := by
      intro p oe c hoc
      cases oe with
      | app e => exact Z55 hoc rfl
      | ex e dp xs => exact Z55 hoc rfl
      | al q π => exact hoc.2
      | sb q π lo sz n => obtain ⟨⟨A, cap', e⟩, _⟩ := hoc; exact ⟨_, _, _, e⟩
     have hcell : ∀ y, (j, y) ∈ cutO fd.offset s own → ∃ c, ((us.drop fd.offset).take s)[j]? = some c ∧ Own E.P G w (.t t (fd.offset + j)) y c := by
      intro y hy
      obtain ⟨h3, h4⟩ := Z7r hy
      obtain ⟨c, hc, hoc⟩ := hoo _ _ h3
      rw [hu] at hc
      refine ⟨c, ?_, hoc⟩
      rw [List.getElem?_take, if_pos h4, List.getElem?_drop]
      simpa [Value.flat, Value.cells] using hc
     have hj' : ∃ y, (j, y) ∈ cutO fd.offset s own := by
      rcases (Z9b hj).2 with h1 | ⟨_, y, h1, _⟩
      ·exact ⟨_, h1⟩
      ·exact ⟨y, h1⟩
     obtain ⟨y, hy⟩ := hj'
     obtain ⟨c, hc, hoc⟩ := hcell y hy
     refine ⟨c, Zah hu2 hc (hf2.imp id (fun _ => isS hoc)), Zie hj (fun z hz => ?_)⟩
     obtain ⟨c', hc', hoc'⟩ := hcell z hz
     rw [hc] at hc'; cases hc'
     exact hoc'
    ·cases hop
   ·cases hop
  ·cases hop
 ·cases hop
inductive Sliced (P : Program) (G : Gho) (w : World) : SlV → Value → Prop where
 | plain {xs : List (List AV)} {u : Value} (h : Rel G.X w (.sl xs) u) : Sliced P G w (.plain xs) u
 | held {p : OP} {π : Path} {u : Value} (h : At w G.lab p (G.pv p) π u) (hs : ∃ A l k, u = .slice A l k) : Sliced P G w (.held p π) u
 | part {p : OP} {π : Path} {lo sz n : Nat} {u : Value} (h : ∀ q, Own P G w q (.sb p π lo sz n) u) : Sliced P G w (.part p π lo sz n) u
theorem Z2n (hI : Inv E L a w G) {x : Operand} {s : SlV} (h : Zd3 L x = some s) : Sliced E.P G w s (a.eval x) := by
 cases x with
 | tmp t =>
  simp only [Zd3] at h
  split at h
  ·rename_i xs own ht
   cases h
   exact .plain (hI.tm t _ _ ht).2.1
  ·rename_i own ht
   obtain ⟨_, hr, hoo⟩ := hI.tm t _ _ ht
   obtain ⟨A, l, k, hu⟩ := hr
   have hu' : a.eval (.tmp t) = .slice A l k := hu
   have h0 : ∀ {oe : OE}, lkO own 0 = some oe → Own E.P G w (.t t 0) oe (a.eval (.tmp t)) := by
    intro oe h0
    obtain ⟨u, hu2, hoc⟩ := hoo 0 oe (Z3x h0)
    rw [hu] at hu2
    simp [Value.flat, Value.cells] at hu2
    rw [hu', hu2]; exact hoc
   split at h
   ·rename_i h1
    cases h
    exact .held ((h0 h1).pv rfl).symm ⟨A, l, k, hu'⟩
   ·rename_i h1
    cases h
    exact .held (h0 h1).1 (h0 h1).2
   ·rename_i h1
    cases h
    exact .part (fun q => (h0 h1).al_any rfl)
   ·cases h
  ·cases h
 | const v =>
  simp only [Zd3] at h
  split at h
  ·rename_i heq
   cases heq
  ·rename_i heq
   cases heq
   cases h
   exact .plain ⟨none, 0, 0, rfl, rfl, Nat.le_refl _, .inl rfl⟩
  ·cases h
 | func f => cases h
 | global g => cases h
theorem Zq6 (hI : Inv E L a w G) (hd : o.dst = some d) (hlt : d < E.n) {T : TypeId} {x i : Operand} (ho : o.op = .indexAddr T x i) (hop : Zgs E.P L d T x i h = some (ups, obs)) (hob : ∀ p ∈ obs, p) : Does E L o a w ups := by
 unfold Zgs at hop
 split at hop
 ·rename_i e k m he hi
  have hv : a.eval i = .int k m := Z2k hI hi
  have hT := Ze9 he
  split at hop
  ·rename_i s xs hs hx
   split at hop
   ·rename_i c hh
    cases hop
    obtain ⟨h0, h1, h2⟩ := hob _ (List.mem_singleton.2 rfl)
    cases Z2n hI hx with
    | plain hr =>
     obtain ⟨A, len, cap, hu, hl, hc, hr⟩ := hr
     have hlt2 : m.toNat < xs.length := (List.getElem?_eq_some_iff.1 h1).1
     rcases hr with hr | ⟨b, off, sz, hA, hr⟩
     ·subst hr; simp at hlt2
     ·obtain ⟨hsz, hrc⟩ := hr.get _ h1
      have : sz = s := by omega
      subst this
      subst hA
      subst hl
      have hlt3 : m < (xs.length : Int) := by omega
      refine Zg hd (v := .pointer (some ⟨b, off + m.toNat * sz, none⟩)) (w' := w) ?_ (hI.set0 hlt (sv := .v (.vptr c)) ⟨b, _, rfl, hrc⟩)
      simp [execOp, ho, hu, hv, Instr.indexAt, asIntOf, Z4g hT, h0, hlt3, Z3e hs, add_lit]
   ·cases hop
  ·rename_i s p π hs hx
   split at hop
   ·rename_i dp xs ob hc
    cases hop
    obtain ⟨h0, c, h1, h2⟩ := hob _ (List.mem_append_right _ (List.mem_singleton.2 rfl))
    cases Z2n hI hx with
    | held hat hs' =>
     have hh := Z8y hI hc (fun q hq => hob q (by simp [hq])) hat
     obtain ⟨b, len, cap, e1, e2, e3, e4, _⟩ := hh.cell h1
     rw [e1] at hat
     have hlt3 : m < (len : Int) := by omega
     refine Zg hd (v := .pointer (some ⟨b, m.toNat * s, none⟩)) (w' := w) ?_ (hI.set0 hlt (sv := .el p π m.toNat s 0) ⟨b, len, cap, hat, e2, e4, rfl⟩)
     simp [execOp, ho, e1, hv, Instr.indexAt, asIntOf, Z4g hT, h0, hlt3, Z3e hs, add_lit]
   ·cases hop
  ·rename_i s p π lo sz n hs hx
   split at hop
   ·rename_i hsz
    have hsz := Nat.eq_of_beq_eq_true hsz
    subst hsz
    cases hop
    obtain ⟨h0, h1⟩ := hob _ (List.mem_singleton.2 rfl)
    cases Z2n hI hx with
    | part hp =>
     have hn : n ≠ 0 := by omega
     obtain ⟨b, len, cap, cap', h2, h3, h4, hu⟩ := (hp (.t 0 0)).2.resolve_left hn
     have hlt3 : m < (n : Int) := by omega
     refine Zg hd (v := .pointer (some ⟨b, lo * sz + m.toNat * sz, none⟩)) (w' := w) ?_ (hI.set0 hlt (sv := .el p π (lo + m.toNat) sz 0) ⟨b, len, cap, h2, h3, by omega, by rw [Nat.add_mul]; rfl⟩)
     simp [execOp, ho, hu, hv, Instr.indexAt, asIntOf, Z4g hT, h0, hlt3, Z3e hs, add_lit]
   ·cases hop
  ·cases hop
 ·cases hop
theorem Zg0 {T : TypeId} (hT : Zhk P T = true) : P.underlying T = some .string := by
 unfold Zhk at hT; split at hT
 ·assumption
 ·cases hT
theorem Z100 (hI : Inv E L a w G) (hd : o.dst = some d) (hlt : d < E.n) {T : TypeId} {x i : Operand} (ho : o.op = .index T x i) (hop : Zvc E.P L d T x i h = some (ups, obs)) (hob : ∀ p ∈ obs, p) : Does E L o a w ups := by
 unfold Zvc at hop
 split at hop
 ·rename_i s k m hT hx hi
  have hu : a.eval x = .string s := Z2k hI hx
  have hv : a.eval i = .int k m := Z2k hI hi
  obtain ⟨h0, h1⟩ := Zce hop hob (0 ≤ m ∧ m.toNat < s.size) (by simp)
  have hg : s[m.toNat]? = some (s[m.toNat]'h1) := by simp [h1]
  refine Zg hd (v := .int .u8 (bt s m)) (w' := w) ?_ (Z5j hI hlt hop hob rfl)
  simp [execOp, ho, hu, hv, Instr.index, asIntOf, Z4g (Zg0 hT), h0, hg, bt]
 ·cases hop
theorem Z103 (hI : Inv E L a w G) (hd : o.dst = some d) (hlt : d < E.n) {op : BinOp} {T T' : TypeId} {x y : Operand} (ho : o.op = .binOp op T x y T') (hop : oBin E.P L d op T x y h = some (ups, obs)) (hob : ∀ p ∈ obs, p) : Does E L o a w ups := by
 unfold oBin at hop
 split at hop
 ·rename_i k m k' m' hx hy
  have hu : a.eval x = .int k m := Z2k hI hx
  have hv : a.eval y = .int k' m' := Z2k hI hy
  split at hop
  ·split at hop
   ·rename_i hk
    subst hk
    have hb : m' ≠ 0 := Zce hop hob _ (by simp)
    refine Zg hd (v := .int k (k.wrap (m.tdiv m'))) (w' := w) ?_ (Z5j hI hlt hop hob rfl)
    simp [execOp, ho, hu, hv, Z4k, binOp, Op.intDiv, hb]
   ·cases hop
  ·split at hop
   ·rename_i hk
    subst hk
    have hb : m' ≠ 0 := Zce hop hob _ (by simp)
    refine Zg hd (v := .int k (m.tmod m')) (w' := w) ?_ (Z5j hI hlt hop hob rfl)
    simp [execOp, ho, hu, hv, Z4k, binOp, Op.intDiv, hb]
   ·cases hop
  ·cases hop
  ·cases hop
  ·rename_i q1 q2 q3 q4
   split at hop
   ·rename_i hk
    subst hk
    split at hop
    ·rename_i v hv'
     obtain ⟨u, hr, hrel⟩ := Zxp (P := E.P) (w := w) (X := G.X) (T := T) hv' q1 q2 q3 q4
     refine Zg hd (v := u) (w' := w) ?_ (Z5j hI hlt hop hob hrel)
     simp [execOp, ho, hu, hv, Z4k, hr]
    ·cases hop
   ·cases hop
 ·rename_i m m' hx hy
  have hu : a.eval x = .string m := Z2k hI hx
  have hv : a.eval y = .string m' := Z2k hI hy
  split at hop
  ·have hb : Z36 m m' := Zce hop hob _ (by simp)
   refine Zg hd (v := .string (m ++ m')) (w' := w) ?_ (Z5j hI hlt hop hob rfl)
   have hb' : (m.size : Int) + (m'.size : Int) ≤ 9223372036854775807 := by
    unfold Z36 at hb; omega
   have e : IntKind.i64.max = 9223372036854775807 := rfl
   simp [execOp, ho, hu, hv, Zfh, binOp, Op.stringOp, e, hb']
  ·split at hop
   ·rename_i v hv'
    obtain ⟨u, hr, hrel⟩ := Zxo (P := E.P) (w := w) (X := G.X) (T := T) hv'
    refine Zg hd (v := u) (w' := w) ?_ (Z5j hI hlt hop hob hrel)
    simp [execOp, ho, hu, hv, Zfh, hr]
   ·cases hop
 ·rename_i m m' hx hy
  have hu : a.eval x = .bool m := Z2k hI hx
  have hv : a.eval y = .bool m' := Z2k hI hy
  split at hop
  ·rename_i hT
   refine Zg hd (v := .bool (m == m')) (w' := w) ?_ (Z5j hI hlt hop hob rfl)
   simp [execOp, ho, hu, hv, Zeg, Zhe hT, Zhd hT]
  ·rename_i hT
   refine Zg hd (v := .bool (!(m == m'))) (w' := w) ?_ (Z5j hI hlt hop hob rfl)
   simp [execOp, ho, hu, hv, Zeg, Zhe hT, Zhd hT]
  ·cases hop
 ·cases hop
theorem Z11u (hI : Inv E L a w G) (hd : o.dst = some d) (hlt : d < E.n) {op : UnOp} {T : TypeId} {x : Operand} (ho : o.op = .unOp op T x) (hop : oUn L d op x h = some (ups, obs)) (hob : ∀ p ∈ obs, p) : Does E L o a w ups := by
 unfold oUn at hop
 split at hop
 ·rename_i k m hx
  have hu : a.eval x = .int k m := Z2k hI hx
  refine Zg hd (v := .int k (k.wrap (0 - m))) (w' := w) ?_ (Z5j hI hlt hop hob rfl)
  simp [execOp, ho, hu, Op.unary, Op.intArith]
 ·rename_i m hx
  have hu : a.eval x = .bool m := Z2k hI hx
  refine Zg hd (v := .bool (!m)) (w' := w) ?_ (Z5j hI hlt hop hob rfl)
  simp [execOp, ho, hu, Op.unary]
 ·cases hop
theorem Zup (hI : Inv E L a w G) (hd : o.dst = some d) (hlt : d < E.n) {S T : TypeId} {x : Operand} (ho : o.op = .convert S T x) (hop : Zmv E.P L d S T x h = some (ups, obs)) (hob : ∀ p ∈ obs, p) : Does E L o a w ups := by
 unfold Zmv at hop
 split at hop
 ·rename_i k m hx
  have hu : a.eval x = .int k m := Z2k hI hx
  split at hop
  ·rename_i k' hk' hs
   obtain ⟨ds, hs⟩ := Option.isSome_iff_exists.1 hs
   have hT : E.P.underlying T = some (.int k') := by
    unfold Zsd at hk'; split at hk'
    ·cases hk'; assumption
    ·cases hk'
   refine Zg hd (v := .int k' (k'.wrap m)) (w' := w) ?_ (Z5j hI hlt hop hob rfl)
   cases ds <;> simp [execOp, ho, hu, convert, Z4g hs, Z4g hT, Conv.intToInt]
  ·cases hop
 ·rename_i m hx
  have hu : a.eval x = .string m := Z2k hI hx
  split at hop
  ·rename_i hs
   simp only [Bool.and_eq_true] at hs
   refine Zg hd (v := .string m) (w' := w) ?_ (Z5j hI hlt hop hob rfl)
   simp [execOp, ho, hu, convert, Z4g (Zg0 hs.1), Z4g (Zg0 hs.2)]
  ·cases hop
 ·cases hop
theorem Zt2 (hI : Inv E L a w G) (hd : o.dst = some d) (hlt : d < E.n) {x : Operand} (ho : o.op = .nilCheck x) (hop : oNil L d x h = some (ups, obs)) (hob : ∀ p ∈ obs, p) : Does E L o a w ups := by
 have vp : ∀ {a' : AV} {own : OwnL} {cs : List AV}, ev L x = some (.v a', own) → a' = .vptr cs → Does E L o a w [.t d (.v (.vptr cs), [])] := by
  rintro a' own cs hc rfl
  obtain ⟨b, f, hu, _⟩ := Z6s hI hc
  exact Zg hd (v := a.eval x) (w' := w) (by simp [execOp, ho, hu]) (hI.set0 hlt (Z6s hI hc))
 unfold oNil at hop
 split at hop
 ·rename_i k off own hc
  cases hop
  have hu : a.eval x = .pointer (some ⟨G.bx k, off, none⟩) := Z6s hI hc
  exact Zg hd (v := a.eval x) (w' := w) (by simp [execOp, ho, hu]) (hI.set0 hlt (sv := .ptr k off) hu)
 ·rename_i a' own hc
  split at hop
  ·cases hop
   exact vp hc (hob _ (List.mem_singleton.2 rfl))
  ·cases hop
  ·split at hop
   ·cases hop; exact vp hc rfl
   ·cases hop
 ·rename_i p π i sz off own hc
  cases hop
  obtain ⟨b, len, cap, _, _, _, hu⟩ := Z6s hI hc
  exact Zg hd (v := a.eval x) (w' := w) (by simp [execOp, ho, hu]) (hI.set0 hlt (Z6s hI hc))
 ·cases hop
theorem Sub.never (L : Look) : Sub (fun _ => False) L L := by
 refine ⟨fun s sv own hs => ⟨own, hs, Z7o, fun j oe hj => ⟨hj, Z1i⟩⟩, fun d x hd => ⟨fun h => h.elim id id, x, hd, ?_⟩, fun i own hi => ⟨own, hi, fun j oe hj => ⟨hj, Z1i⟩⟩⟩
 cases x with
 | cells cs own => exact ⟨rfl, fun j oe hj => ⟨hj, Z1i⟩⟩
 | map ks vs => exact ⟨rfl, rfl⟩
 | part m cs => exact ⟨rfl, rfl⟩
 | ref q => exact ⟨rfl, fun h => h⟩
theorem Z11x (hI : Inv E L a w G) (hd : o.dst = some d) (hlt : d < E.n) {T : TypeId} {x : Operand} (ho : o.op = .box T x) (hop : Z10g L d x = some (ups, obs)) : Does E L o a w ups := by
 unfold Z10g at hop
 split at hop
 ·rename_i av hx
  split at hop
  ·rename_i hsol
   cases hop
   have hr := Z2k hI hx
   have hexec : (execOp a.eval o).run E.P w = .ok (.value (.pointer (some ⟨w.heap.size, 0, none⟩))) (w.alloc (.cells (a.eval x).cells T)) := by
    simp [execOp, ho, Instr.box, newVar, newRow]
   refine Zg hd hexec ?_
   have hS : Stp (fun _ => False) w (w.alloc (.cells (a.eval x).cells T)) G (G.grow w.heap.size none none id G.bx G.pv) :=
    Stp.alloc hI _ none none (fun _ _ => rfl) (fun _ _ => rfl) (fun _ _ => rfl) (fun _ _ => rfl) (fun _ _ => rfl)
   have h1 := hI.step (Sub.never L) hS
   have hnew : (w.alloc (.cells (a.eval x).cells T)).heap[w.heap.size]? = some (.cells (a.eval x).cells T (0, 0)) := heap_alloc_new w _
   refine ⟨_, h1.setT hlt (sv := .v (.vptr av.cells)) ⟨w.heap.size, 0, rfl, Zgi (X := G.X) hS.ext av.cells _ 0 (Z2t hr hsol) (fun j u hj => ?_) (fun j hj => ?_)⟩ (fun j oe hj => by cases hj)⟩
   ·rw [Z4u hnew]; simpa using hj
   ·simp [okc, Gho.grow]
  ·cases hop
 ·cases hop
theorem Z11v (hI : Inv E L a w G) (hd : o.dst = some d) (hlt : d < E.n) {c x y : Operand} (ho : o.op = .pick c x y)
  (hop : (match evV L c with | some (.bool true) => Zt9 L d x | some (.bool false) => Zt9 L d y | _ => none) = some (ups, obs)) : Does E L o a w ups := by
 split at hop
 ·rename_i hc
  have hc' := Z2k hI hc
  exact Zg hd (v := a.eval x) (w' := w) (by simp [execOp, ho, show a.eval c = .bool true from hc', asBool]) (Zz0 hI hlt hop)
 ·rename_i hc
  have hc' := Z2k hI hc
  exact Zg hd (v := a.eval y) (w' := w) (by simp [execOp, ho, show a.eval c = .bool false from hc', asBool]) (Zz0 hI hlt hop)
 ·cases hop
theorem Zt3 (hI : Inv E L a w G) (hd : o.dst = some d) (hlt : d < E.n) {fn : Fn} {first captured : Array Operand} (ho : o.op = .makeFunc fn first captured) (hop : Zji L d fn first.toList captured.toList = some (ups, obs)) : Does E L o a w ups := by
 unfold Zji at hop
 split at hop
 ·rename_i f caps hf hc
  cases hop
  have hr := Zsj hI hc
  refine Zg hd (v := .func (.func f) #[] (captured.map a.eval)) (w' := w) ?_ (hI.set0 hlt (sv := .v (.func f caps)) ⟨captured.toList.map a.eval, by congr 1; apply Array.ext'; simp, hr⟩)
  have : first = #[] := by apply Array.ext'; simpa using hf
  simp [execOp, ho, Instr.makeFunc, this]
 ·cases hop
end Go.Bv

namespace Go.Bv
open Go.RowKit
variable {E : Env} {P : Program} {n : Nat} {L L' : Look} {a : Act} {w w' : World} {G G' : Gho} {D D' : LP → Prop} {o : Oper} {d : Nat} {h : Hint} {ups : List Upd} {obs : List Prop}
def moveTT' (t off s d : Nat) : OP → OP
 | .t i j => if i = t ∧ off ≤ j ∧ j < off + s then .t d (j - off) else .t i j
 | p => p
def DTr (t off s : Nat) : LP → Prop
 | .own (.t i j) => i = t ∧ off ≤ j ∧ j < off + s
 | _ => False
theorem Zf9 {k off s : Nat} {q : LP} (h : DTr k off s q) : DR (.t k) q := by
 cases q with
 | box d => exact h
 | ptr d => exact h
 | arg i j => exact h
 | own p =>
  cases p with
  | t s j => exact h.1
  | b i j => exact h
  | a i j => exact h
theorem Inv.clearTr (hI : Inv E L a w G) {t off s : Nat} {y : AV} {own : OwnL} (ht : L.t t = some (.v y, own)) (hn : Z4l (.t t) own = false) :
  Inv E ((L.upd (.f (.t t))).upd (.t t (.v y, Zbz off s own))) a w G ∧ Av (DTr t off s) ((L.upd (.f (.t t))).upd (.t t (.v y, Zbz off s own))) := by
 obtain ⟨h1, h2, h3⟩ := hI.tm t _ _ ht
 refine ⟨(hI.forget (.t t)).setT' h1 h2 (fun j oe hj => h3 j oe (Z6r hj).1), ?_⟩
 have key : Av (DTr t off s) ((L.upd (.f (.t t))).upd (.t t (.v y, []))) := (Av.clear t).mono (fun q hq => Zf9 hq)
 refine ⟨?_, fun k x hk => key.b k x hk, fun i own hi => key.g i own hi⟩
 intro k sv own' hk
 by_cases e : k = t
 ·subst e
  rw [Zge] at hk
  cases hk
  refine ⟨trivial, fun j oe hj => ?_⟩
  obtain ⟨hj1, hj2⟩ := Z6r hj
  have hr := Zi hn j oe hj1
  cases oe with
  | app e => exact fun hd => hj2 hd.2
  | ex e dp xs => exact fun hd => hj2 hd.2
  | al q π => exact Zv8 hr fun hd => Zf9 hd
  | sb q π lo sz n => intro hd; have := Zav (Zf9 hd); simp [OE.refs, this.1, this.2] at hr
 ·rw [Zfb e] at hk
  exact key.t k sv own' (by rw [Zfb e]; exact hk)
theorem RelL.comps {X : Gh} : ∀ {vs : List AV} {us : List Value} (i : Nat) {v : AV} {u : Value}, RelL X w vs us → vs[i]? = some v → us[i]? = some u → (∀ k x, k < i → vs[k]? = some x → x.solid = true) →
  ∀ j c, v.solid = true → (us.flatMap fun v => v.cells.toList)[Z43 vs i + j]? = some c → j < v.cells.length → u.cells.toList[j]? = some c
 | [], _, _, _, _, _, h, _, _, _, _, _, _, _ => by simp at h
 | x :: vs, _, 0, v, u, ⟨u', r, e, h1, h2⟩, hv, hu, _, j, c, hs, hc, hj => by
  subst e
  simp at hv hu
  subst hv; subst hu
  have hl := (Z2t h1 hs).length
  simp only [Z43, Nat.zero_add, List.flatMap_cons] at hc
  rwa [List.getElem?_append_left (by omega)] at hc
 | x :: vs, _, i + 1, v, u, ⟨u', r, e, h1, h2⟩, hv, hu, hsol, j, c, hs, hc, hj => by
  subst e
  have hx := hsol 0 x (by omega) rfl
  have hl := (Z2t h1 hx).length
  simp only [Z43, List.flatMap_cons] at hc
  rw [List.getElem?_append_right (by omega), show x.cells.length + Z43 vs i + j - u'.cells.toList.length = Z43 vs i + j by omega] at hc
  exact RelL.comps i h2 (by simpa using hv) (by simpa using hu) (fun k y hk hy => hsol (k + 1) y (by omega) (by simpa using hy)) j c hs hc hj
theorem Zuo (hI : Inv E L a w G) (hd : o.dst = some d) (hlt : d < E.n) {x : Operand} {i : Nat} (ho : o.op = .extract x i) (hop : Zmu L d x i h = some (ups, obs)) : Does E L o a w ups := by
 unfold Zmu at hop
 split at hop
 ·rename_i t
  split at hop
  ·rename_i vs own ht
   obtain ⟨_, ⟨us, hu, hr⟩, hoo⟩ := hI.tm t _ _ ht
   have hu' : a.eval (.tmp t) = .tuple us.toArray := hu
   split at hop
   ·rename_i v hv
    obtain ⟨u, hui, hrel⟩ := hr.get i hv
    have hexec : (execOp a.eval o).run E.P w = .ok (.value u) w := by simp [execOp, ho, hu', Instr.extract, hui]
    have cell : v.solid = true → (vs.take i).all AV.solid = true → ∀ j oe, (j, oe) ∈ cutO (Z43 vs i) v.cells.length own → ∃ c, (Value.flat u)[j]? = some c ∧ Own E.P G w (.t t (Z43 vs i + j)) oe c := by
     intro hs hall j oe hj
     obtain ⟨h1, h2⟩ := Z7r hj
     obtain ⟨c, hc, hoc⟩ := hoo _ _ h1
     refine ⟨c, ?_, hoc⟩
     rw [hu] at hc
     rw [Z4j (Z3p hrel hs)]
     refine RelL.comps i hr hv hui (fun k x hk hx => ?_) j c hs (by simpa [Value.flat] using hc) h2
     rw [List.all_eq_true] at hall
     exact hall x (List.mem_iff_getElem?.2 ⟨k, by rw [List.getElem?_take, if_pos hk]; exact hx⟩)
    split at hop
    ·rename_i e1 e2 hs htk
     split at hop
     ·rename_i hall
      cases hop
      refine Zg hd hexec (hI.setSeen hlt (sv := .v v) hrel (fun j oe hj => ?_))
      have hj' : ∃ y, (j, y) ∈ cutO (Z43 vs i) v.cells.length own := by
       rcases (Z9b hj).2 with h1 | ⟨_, y, h1, _⟩
       ·exact ⟨_, h1⟩
       ·exact ⟨y, h1⟩
      obtain ⟨y, hy⟩ := hj'
      obtain ⟨c, hc, hoc⟩ := cell hs hall j y hy
      refine ⟨c, hc, Zie hj (fun z hz => ?_)⟩
      obtain ⟨c', hc', hoc'⟩ := cell hs hall j z hz
      rw [hc] at hc'; cases hc'
      exact hoc'
     ·cases hop
    ·rename_i e1 e2 hs htk
     split at hop
     ·cases hop
     ·rename_i hn
      simp only [Bool.or_eq_false_iff] at hn
      obtain ⟨⟨⟨hn1, hn2⟩, hn3⟩, hn4⟩ := hn
      cases hop
      have hall : (vs.take i).all AV.solid = true := by simpa using hn4
      have htd : t ≠ d := Z57 hn3
      refine Zg hd hexec ?_
      obtain ⟨h1, av1⟩ := hI.clearTr (off := Z43 vs i) (s := v.cells.length) ht hn1
      obtain ⟨h2, av2⟩ := h1.fresh hlt
      have av1' : Av (DTr t (Z43 vs i) v.cells.length) (Look.upds ((L.upd (.f (.t t))).upd (.t t (.v (.tup vs), Zbz (Z43 vs i) v.cells.length own))) (fresh d)) := (av1.f (.t d)).setT trivial (fun j oe hj => by cases hj)
      have hS : Stp (fun q => DTr t (Z43 vs i) v.cells.length q ∨ DR (.t d) q) w w G (G.hand (moveTT' t (Z43 vs i) v.cells.length d) (pvT G.pv d u)) := Stp.hand hI
       (fun p hp => by
        simp only [not_or] at hp
        cases p with
        | b i j => rfl
        | t i j => simp only [DTr] at hp; simp only [moveTT', if_neg hp.1]
        | a i j => rfl)
       (fun p hp => by simp only [not_or] at hp; exact Zj3 hp.2) (fun i j => rfl)
      have h3 := h2.step' (av1'.or av2) hS
      refine ⟨_, h3.setT hlt (sv := .v v) hrel (fun j oe hj => ?_)⟩
      obtain ⟨c, hc, hoc⟩ := cell hs hall j oe hj
      refine ⟨c, hc, ?_⟩
      cases hw : oe.owner with
      | true =>
       have hj2 := (Z7r hj).2
       exact hoc.hand hw (by
        show (if t = t ∧ Z43 vs i ≤ Z43 vs i + j ∧ Z43 vs i + j < Z43 vs i + v.cells.length then OP.t d (Z43 vs i + j - Z43 vs i) else OP.t t (Z43 vs i + j)) = _
        rw [if_pos ⟨rfl, by omega, by omega⟩, Nat.add_sub_cancel_left]) (Zj4 hc)
      | false =>
       refine (hS.own ?_ hoc).al_any hw
       have e1 : okE (DR (.t t)) (.t t (Z43 vs i + j)) oe := Z6j (Zi hn1 _ oe (Z7r hj).1) (fun h => by rw [hw] at h; cases h)
       exact (e1.mono (fun q hq => Zf9 hq)).or (Z6j (Zi hn2 j oe hj) (fun h => by rw [hw] at h; cases h))
    ·split at hop
     ·cases hop
      exact Zg hd hexec (hI.set0 hlt (sv := .v v) hrel)
     ·cases hop
   ·cases hop
  ·cases hop
 ·cases hop
theorem Zje (hI : Inv E L a w G) {x : Option Operand} {l : Option Int} (h : Zjf L x = some l) : (x = none ∧ l = none) ∨ ∃ y k m, x = some y ∧ l = some m ∧ a.eval y = .int k m := by
 cases x with
 | none => simp [Zjf] at h; subst h; exact .inl ⟨rfl, rfl⟩
 | some y =>
  simp only [Zjf] at h
  split at h
  ·rename_i k m hy
   cases h
   exact .inr ⟨y, k, m, rfl, rfl, Z2k hI hy⟩
  ·cases h
theorem Zba (hI : Inv E L a w G) {lo hi : Option Operand} {l hh : Option Int} (hl : Zjf L lo = some l) (hhi : Zjf L hi = some hh) (b : Bool) (len cap : Nat)
  (h1 : 0 ≤ l.getD 0) (h2 : l.getD 0 ≤ hh.getD len) (h3 : hh.getD len ≤ (len : Int)) (h4 : len ≤ cap) :
  (Instr.sliceBounds b len cap (lo.map a.eval) (hi.map a.eval) none).run P w = .ok ((l.getD 0).toNat, (hh.getD len).toNat, cap) w := by
 rcases Zje hI hl with ⟨rfl, rfl⟩ | ⟨y, k, m, rfl, rfl, e1⟩ <;> rcases Zje hI hhi with ⟨rfl, rfl⟩ | ⟨y2, k2, m2, rfl, rfl, e2⟩ <;> simp only [Option.getD_some, Option.getD_none] at h1 h2 h3 ⊢
 ·simp [Instr.sliceBounds]
 ·cases b <;> simp [Instr.sliceBounds, e2, Zfj h2 (show m2 ≤ (cap : Int) by omega)]
 ·cases b <;> simp [Instr.sliceBounds, e1, Zfj h1 h2]
 ·have h5 : m ≤ (m2.toNat : Int) := by omega
  cases b <;> simp [Instr.sliceBounds, e1, e2, Zfj (show 0 ≤ m2 by omega) (show m2 ≤ (cap : Int) by omega), Zfj h1 h5]
theorem Zob {base sz n k : Nat} {e : TypeId} {u : Value} {us : List Value} (h : w.ownsRow base e sz u n us) (hk : k ≤ n) :
  ∃ u', (∀ A l c, u = .slice A l c → u' = .slice A k c) ∧ w.ownsRow base e sz u' k (us.take (k * sz)) ∧ blks u' = blks u := by
 have hmul : k * sz ≤ n * sz := Nat.mul_le_mul_right sz hk
 rcases h.2 with ⟨rfl, h0⟩ | ⟨g, cap, cur, rfl, h1, h2, h3, h4, h5, h6⟩
 ·have : k = 0 := by omega
  subst this
  have hus : us = [] := List.eq_nil_of_length_eq_zero (by rw [h.1, h0]; simp)
  subst hus
  exact ⟨.slice none 0 0, fun A l c e => by cases e; rfl, by simpa using World.ownsRow_nil w base e sz, rfl⟩
 ·refine ⟨.slice (some ⟨g, 0, none⟩) k cap, fun A l c e => by cases e; rfl, ⟨by rw [List.length_take, h.1]; omega, .inr ⟨g, cap, cur, rfl, h1, h2, by omega, h4, h5, ?_⟩⟩, rfl⟩
  rw [← h6, List.take_take]; congr 1; omega
theorem Zot {α : Type} {xs : List (List α)} {sz k : Nat} (hl : ∀ c ∈ xs, c.length = sz) (hk : k ≤ xs.length) : xs.flatten.take (k * sz) = (xs.take k).flatten := by
  induction xs generalizing k with
  | nil => have : k = 0 := by simpa using hk
           subst this; simp
  | cons x xs ih =>
    cases k with
    | zero => simp
    | succ k =>
      have hx := hl x (by simp)
      rw [List.flatten_cons, List.take_succ_cons, List.flatten_cons, Nat.add_mul, Nat.one_mul, Nat.add_comm, ← hx, List.take_length_add_append]
      rw [hx, ih (fun c hc => hl c (by simp [hc])) (by simpa using hk)]
theorem DVL.take : ∀ (k : Nat) {cs : List AV} {us : List Value} {F : List Nat}, DVL P w cs us F → ∃ F', DVL P w (cs.take k) (us.take k) F' ∧ F'.Sublist F
 | 0, _, _, _, _ => ⟨[], ⟨rfl, rfl⟩, List.nil_sublist _⟩
 | k + 1, [], _, _, ⟨e, e2⟩ => by subst e; subst e2; exact ⟨[], ⟨rfl, rfl⟩, List.nil_sublist _⟩
 | k + 1, c :: cs, _, _, ⟨u, r, F1, F2, e, e2, a, b⟩ => by
  subst e; subst e2
  obtain ⟨F', h1, h2⟩ := DVL.take k b
  exact ⟨F1 ++ F', ⟨u, _, F1, F', rfl, rfl, a, h1⟩, h2.append_left _⟩
theorem Zzy (hI : Inv E L a w G) (hd : o.dst = some d) (hlt : d < E.n) {T : TypeId} {x : Operand} {lo hi : Option Operand} (ho : o.op = .slice T x lo hi none) (hop : Zva E.P L d T x lo hi h = some (ups, obs)) (hob : ∀ p ∈ obs, p) : Does E L o a w ups := by
 unfold Zva at hop
 split at hop
 ·rename_i l hh hl hhi
  split at hop
  ·rename_i s hx
   have hu : a.eval x = .string s := Z2k hI hx
   split at hop
   ·rename_i hT
    obtain ⟨h1, h2, h3⟩ := Zce hop hob (0 ≤ l.getD 0 ∧ l.getD 0 ≤ hh.getD s.size ∧ hh.getD s.size ≤ s.size) (by simp)
    refine Zg hd (v := .string (s.extract (l.getD 0).toNat (hh.getD s.size).toNat)) (w' := w) ?_ (Z5j hI hlt hop hob rfl)
    simp [execOp, ho, hu, Instr.sliceAt, Instr.slice, Z4g (Zg0 hT), Zba hI hl hhi false s.size s.size h1 h2 h3 (Nat.le_refl _)]
   ·cases hop
  ·split at hop
   ·rename_i e he
    have hT := Ze9 he
    split at hop
    ·rename_i s xs hs hx
     -- a plain slice
     have core : 0 ≤ l.getD 0 → l.getD 0 ≤ hh.getD xs.length → hh.getD xs.length ≤ xs.length → (∀ c ∈ xs, c.length = s) →
       Does E L o a w [.t d (.v (.sl ((xs.take (hh.getD xs.length).toNat).drop (l.getD 0).toNat)), [])] := by
      intro h1 h2 h3 h4
      cases Z2n hI hx with
      | plain hr =>
       obtain ⟨A, len, cap, hu, hlen, hcap, hr⟩ := hr
       subst hlen
       have hb := Zba (P := E.P) (w := w) hI hl hhi true xs.length cap h1 h2 h3 hcap
       have hlt1 : (l.getD 0).toNat ≤ (hh.getD xs.length).toNat := by omega
       have hlt2 : (hh.getD xs.length).toNat ≤ xs.length := by omega
       refine Zg hd (v := .slice (if cap = (l.getD 0).toNat then A else A.map (·.add ((l.getD 0).toNat * s))) ((hh.getD xs.length).toNat - (l.getD 0).toNat) (cap - (l.getD 0).toNat)) (w' := w) ?_
        (hI.set0 hlt (sv := .v (.sl ((xs.take (hh.getD xs.length).toNat).drop (l.getD 0).toNat))) ⟨_, _, _, rfl, by rw [List.length_drop, List.length_take]; omega, by omega, ?_⟩)
       ·simp [execOp, ho, hu, Instr.sliceAt, Instr.slice, Z4g hT, hb, Z3e hs]
       ·by_cases hz : ((xs.take (hh.getD xs.length).toNat).drop (l.getD 0).toNat) = []
        ·exact .inl hz
        ·refine .inr ?_
         rcases hr with hr | ⟨b, off, sz, hA, hr⟩
         ·subst hr; simp at hz
         ·have hne : 0 < (hh.getD xs.length).toNat - (l.getD 0).toNat := by
           have : 0 < ((xs.take (hh.getD xs.length).toNat).drop (l.getD 0).toNat).length := List.length_pos_iff.2 hz
           rw [List.length_drop, List.length_take] at this; omega
          have hsz : sz = s := by
           have h0 : 0 < xs.length := by omega
           have g0 : xs[0]? = some xs[0] := by simp [h0]
           have := (hr.get 0 g0).1
           rw [← this]; exact h4 _ (by simp)
          subst hsz
          subst hA
          refine ⟨b, off + (l.getD 0).toNat * sz, sz, ?_, (hr.take _).drop _⟩
          rw [if_neg (by omega)]
          simp [add_lit]
     split at hop
     ·rename_i v hv
      cases hop
      obtain ⟨h1, h2, h3, h4, h5⟩ := hob _ (List.mem_singleton.2 rfl)
      subst h5
      exact core h1 h2 h3 h4
     ·cases hop
      obtain ⟨h1, h2, h3, h4⟩ := hob _ (List.mem_singleton.2 rfl)
      exact core h1 h2 h3 h4
    ·rename_i s p π hs hx
     split at hop
     ·rename_i t hns
      split at hop
      ·-- taken
       rename_i l0 hh0 e' dp xs m htk ht
       split at hop
       ·rename_i ys ob hee hnew
        cases hop
        rw [Bool.and_eq_true, Bool.not_eq_true'] at hee
        have hne := Z57 hee.2
        have hee := Nat.eq_of_beq_eq_true hee.1
        subst hee
        obtain ⟨h1, h2⟩ := hob _ (List.mem_append_right _ (List.mem_singleton.2 rfl))
        have hys : ys = xs.take m.toNat := by
         unfold Zpt at hnew
         split at hnew
         ·cases hnew
          exact (hob (xs.take m.toNat = _) (by simp)).symm
         ·cases hnew; rfl
        subst hys
        obtain ⟨_, ⟨A, l2, k2, hu⟩, hoo⟩ := hI.tm t _ _ ht
        have hu' : a.eval (.tmp t) = .slice A l2 k2 := hu
        obtain ⟨c, hc, hoc⟩ := hoo 0 _ List.mem_cons_self
        rw [hu] at hc
        simp [Value.flat, Value.cells] at hc
        subst hc
        obtain ⟨hpv, F, ⟨e2, sz, us, F', g0, g1, g2, g3, g4, rfl, g6, g7⟩, hF⟩ := hoc
        obtain rfl : e2 = e := g0.resolve_right hne
        have hsz : sz = s := by rw [hs] at g1; cases g1; rfl
        subst hsz
        obtain ⟨u', k1, k2', k3⟩ := Zob g2 (show m.toNat ≤ xs.length by omega)
        have hk1 := k1 A l2 k2 rfl
        subst hk1
        have hlen : l2 = xs.length := by
         rcases g2.2 with ⟨e1, e2⟩ | ⟨g, cp, cur, e1, _⟩ <;> cases e1
         ·exact e2.symm
         ·rfl
        subst hlen
        have hcap : xs.length ≤ k2 := by
         rcases g2.2 with ⟨e1, e2⟩ | ⟨g, cp, cur, e1, _, _, h9, _⟩
         ·omega
         ·cases e1; exact h9
        have hA : A = none ∨ ∃ g, A = some ⟨g, 0, none⟩ := by
         rcases g2.2 with ⟨e1, e2⟩ | ⟨g, cp, cur, e1, _⟩
         ·simp at e1; exact .inl e1.1
         ·cases e1; exact .inr ⟨g, rfl⟩
        have hb := Zba (P := E.P) (w := w) (l := none) (hh := some m) hI hl hhi true xs.length k2 (by simp) (by simpa using h1) (by simpa using h2) hcap
        simp at hb
        refine Zg hd (v := .slice A m.toNat k2) (w' := w) ?_ ?_
        ·simp [execOp, ho, hu', Instr.sliceAt, Instr.slice, Z4g hT, hb, Z3e hs]
         intro _
         rcases hA with rfl | ⟨g, rfl⟩
         ·rfl
         ·simp [add_lit]
        ·obtain ⟨i1, av1⟩ := hI.clear ht
         obtain ⟨i2, av2⟩ := i1.fresh hlt
         have av1' : Av (DR (.t t)) (Look.upds ((L.upd (.f (.t t))).upd (.t t (.v .slx, []))) (fresh d)) := (av1.f (.t d)).setT trivial (fun j oe hj => by cases hj)
         have hS : Stp (fun q => DR (.t t) q ∨ DR (.t d) q) w w G (G.hand (Zjm t d) (pvT G.pv d (.slice A m.toNat k2))) := Stp.hand hI
          (fun p hp => by
           cases p with
           | t k j => simp only [DR, not_or] at hp; simp [Zjm, hp.1]
           | b k j => rfl
           | a k j => rfl)
          (fun p hp => by simp only [not_or] at hp; exact Zj3 hp.2) (fun i j => rfl)
         have i3 := i2.step' (av1'.or av2) hS
         refine ⟨_, i3.setT hlt (sv := .v .slx) ⟨_, _, _, rfl⟩ (fun j oe hj => ?_)⟩
         simp at hj
         obtain ⟨rfl, rfl⟩ := hj
         refine ⟨_, rfl, Zj4 rfl, ?_⟩
         have htake := Zot g3 (show m.toNat ≤ xs.length by omega)
         have hlt3 : (xs.take m.toNat).length = m.toNat := by rw [List.length_take]; omega
         have hlabs : ∀ b ∈ blks (Value.slice A xs.length k2) ++ F', (G.hand (Zjm t d) (pvT G.pv d (.slice A m.toNat k2))).lab b = some (.own (.t d 0)) := fun b hb => by
          have := hF b hb
          simp [Gho.hand, this, LP.to, Zjm]
         cases dp with
         | true =>
          obtain ⟨F2, f1, f2⟩ := DVL.take (m.toNat * sz) g4
          rw [htake] at f1
          refine ⟨blks (Value.slice A m.toNat k2) ++ F2, ⟨e2, sz, us.take (m.toNat * sz), F2, .inl rfl, g1, by rw [hlt3]; exact k2', fun c hc => g3 c (List.mem_of_mem_take hc), f1, rfl, ?_, ?_⟩, ?_⟩
          ·rw [k3]; exact g6.sublist (f2.append_left _)
          ·intro b hb; rw [k3] at hb; exact g7 b ((f2.append_left _).subset hb)
          ·intro b hb; rw [k3] at hb; exact hlabs b ((f2.append_left _).subset hb)
         | false =>
          obtain ⟨rfl, g4⟩ := g4
          refine ⟨blks (Value.slice A m.toNat k2) ++ [], ⟨e2, sz, us.take (m.toNat * sz), [], .inl rfl, g1, by rw [hlt3]; exact k2', fun c hc => g3 c (List.mem_of_mem_take hc), ⟨rfl, ?_⟩, rfl, ?_, ?_⟩, ?_⟩
          ·rw [← htake]; exact RelL.take _ g4
          ·rw [k3]; exact g6
          ·intro b hb; rw [k3] at hb; exact g7 b hb
          ·intro b hb; rw [k3] at hb; exact hlabs b hb
       ·cases hop
      ·-- a part of it
       rename_i l hh _ _ _ _ _
       split at hop
       ·rename_i dp xs ob hc
        cases hop
        obtain ⟨h1, h2, h3⟩ := hob _ (List.mem_append_right _ (List.mem_singleton.2 rfl))
        cases Z2n hI hx with
        | held hat hs' =>
         have hh' := Z8y hI hc (fun q hq => hob q (by simp [hq])) hat
         obtain ⟨e2, sz, us, F, r1, r2, r3, r4, r5⟩ := hh'.row
         have hlt1 : (l.getD 0).toNat ≤ (hh.getD xs.length).toNat := by omega
         have hlt2 : (hh.getD xs.length).toNat ≤ xs.length := by omega
         rcases r2.2 with ⟨e1, h0⟩ | ⟨g, cap, cur, e1, _, g2, g3, _⟩
         ·have hb := Zba (P := E.P) (w := w) hI hl hhi true xs.length 0 h1 h2 h3 (by omega)
          rw [h0] at hb
          refine Zg hd (v := .slice none ((hh.getD xs.length).toNat - (l.getD 0).toNat) (0 - (l.getD 0).toNat)) (w' := w) ?_ (hI.setSeen hlt (sv := .v .slx) ⟨_, _, _, rfl⟩ (fun j oe hj => ?_))
          ·rw [h0] at hlt1 ⊢
           simp [execOp, ho, e1, Instr.sliceAt, Instr.slice, Z4g hT, hb, Z3e hs]
          ·simp at hj
           obtain ⟨rfl, rfl⟩ := hj
           exact ⟨_, rfl, ⟨_, _, rfl⟩, .inl (by omega)⟩
         ·have hb := Zba (P := E.P) (w := w) hI hl hhi true xs.length cap h1 h2 h3 g3
          rw [e1] at hat
          refine Zg hd (v := .slice (if cap = (l.getD 0).toNat then some ⟨g, 0, none⟩ else some ⟨g, (l.getD 0).toNat * s, none⟩) ((hh.getD xs.length).toNat - (l.getD 0).toNat) (cap - (l.getD 0).toNat)) (w' := w) ?_ (hI.setSeen hlt (sv := .v .slx) ⟨_, _, _, rfl⟩ (fun j oe hj => ?_))
          ·simp [execOp, ho, e1, Instr.sliceAt, Instr.slice, Z4g hT, hb, Z3e hs, add_lit]
          ·simp at hj
           obtain ⟨rfl, rfl⟩ := hj
           refine ⟨_, rfl, ⟨_, _, rfl⟩, ?_⟩
           by_cases hn : (hh.getD xs.length).toNat - (l.getD 0).toNat = 0
           ·exact .inl hn
           ·refine .inr ⟨g, xs.length, cap, cap - (l.getD 0).toNat, hat, r5 g (by rw [e1]; simp [blks, Value.ownBlock]), by omega, ?_⟩
            rw [if_neg (by omega)]
       ·cases hop
      ·cases hop
     ·cases hop
    ·cases hop
   ·cases hop
 ·cases hop
end Go.Bv

namespace Go.Bv
open Go.RowKit
variable {E : Env} {P : Program} {n : Nat} {L L' : Look} {a : Act} {w w' : World} {G G' : Gho} {D D' : LP → Prop} {o : Oper} {d : Nat} {h : Hint} {ups : List Upd} {obs : List Prop}
theorem Zuq (hI : Inv E L a w G) (hd : o.dst = some d) (hlt : d < E.n) {c : Call} (ho : o.op = .call c) {b : Builtin} (hg : c.callee = .builtin b) (hop : Zmw E.P L d b c.args.toList c.argTypes.toList h = some (ups, obs)) (hob : ∀ p ∈ obs, p) :
  Does E L o a w ups := by
 have two : ∀ {x y : Operand} {k k' : IntKind} {m m' : Int}, c.args.toList = [x, y] → evV L x = some (.int k m) → evV L y = some (.int k' m') → c.args.map a.eval = #[.int k m, .int k' m'] := by
  intro x y k k' m m' h1 h2 h3
  have e1 : a.eval x = .int k m := Z2k hI h2
  have e2 : a.eval y = .int k' m' := Z2k hI h3
  apply Array.ext'; simp [h1, e1, e2]
 unfold Zmw at hop
 split at hop
 ·-- len
  rename_i x t hargs htys
  have hty : c.argTypes[0]? = some t := by rw [← Array.getElem?_toList, htys]; rfl
  have harg : c.args.map a.eval = #[a.eval x] := by apply Array.ext'; simp [hargs]
  split at hop
  ·rename_i e hT
   split at hop
   ·rename_i m ob hl
    have hu : ∃ A cap, a.eval x = .slice A m cap := by
     unfold lenOf at hl
     split at hl
     ·rename_i xs hx
      cases hl
      cases Z2n hI hx with
      | plain hr => obtain ⟨A, len, cap, hu, rfl, _⟩ := hr; exact ⟨A, cap, hu⟩
     ·rename_i p π hx
      split at hl
      ·rename_i dp xs ob' hc
       cases hl
       cases Z2n hI hx with
       | held hat hs =>
        have hh := Z8y hI hc (fun q hq => Zce hop hob q hq) hat
        obtain ⟨e, sz, us, F, _, r2, _⟩ := hh.row
        rcases r2.2 with ⟨e1, h0⟩ | ⟨g, cap, cur, e1, _⟩
        ·exact ⟨none, 0, by rw [e1, h0]⟩
        ·exact ⟨_, cap, e1⟩
      ·cases hl
     ·rename_i p π lo sz k hx
      cases hl
      cases Z2n hI hx with
      | part hp => obtain ⟨⟨A, cap, hu⟩, _⟩ := hp (.t 0 0); exact ⟨A, cap, hu⟩
     ·cases hl
    obtain ⟨A, cap, hu⟩ := hu
    refine Zg hd (v := .int .i64 m) (w' := w) ?_ (Z5j hI hlt hop hob rfl)
    simp [execOp, ho, resolve, hg, invoke, builtin, harg, Builtin.len_, hty, Z4g hT, hu, goInt]
   ·cases hop
  ·rename_i hT
   split at hop
   ·rename_i s hx
    have hu : a.eval x = .string s := Z2k hI hx
    refine Zg hd (v := .int .i64 s.size) (w' := w) ?_ (Z5j hI hlt hop hob rfl)
    simp [execOp, ho, resolve, hg, invoke, builtin, harg, Builtin.len_, hty, Z4g hT, hu, goInt]
   ·cases hop
  ·cases hop
 ·rename_i x y _ hargs
  split at hop
  ·rename_i k m k' m' hx hy
   have hargs' := two hargs hx hy
   split at hop
   ·rename_i hk; subst hk
    refine Zg hd (v := .int k (if m' > m then m' else m)) (w' := w) ?_ (Z5j hI hlt hop hob rfl)
    simp [execOp, ho, resolve, hg, invoke, builtin, hargs', Builtin.max_, Builtin.max2]
   ·cases hop
  ·cases hop
 ·rename_i x y _ hargs
  split at hop
  ·rename_i k m k' m' hx hy
   have hargs' := two hargs hx hy
   split at hop
   ·rename_i hk; subst hk
    refine Zg hd (v := .int k (if m' < m then m' else m)) (w' := w) ?_ (Z5j hI hlt hop hob rfl)
    simp [execOp, ho, resolve, hg, invoke, builtin, hargs', Builtin.min_, Builtin.min2]
   ·cases hop
  ·cases hop
 ·cases hop
def Zs6 (t d off : Nat) : OP → OP
 | .t k j => if k = t then .t d (off + j) else .t k j
 | p => p
def pvR (pv : OP → Value) (d off : Nat) (us : List Value) : OP → Value
 | .t k j => if k = d ∧ off ≤ j ∧ j < off + us.length then (us[j - off]?).getD undef else pv (.t k j)
 | p => pv p
theorem Inv.takeTo (hI : Inv E L a w G) (hav : Av (DR (.t d)) L) {t : Nat} (htd : t ≠ d) {y : AV} {own : OwnL} (ht : L.t t = some (.v y, own)) (hn : Z4l (.t t) own = false) (hnd : Z4l (.t d) own = false) (hsol : y.solid = true) (off : Nat) :
  ∃ G', G'.X = G.X ∧ Inv E (L.upds [.f (.t t), .t t (.v y, [])]) a w G' ∧ Av (DR (.t d)) (L.upds [.f (.t t), .t t (.v y, [])]) ∧
   Stp (fun q => DR (.t t) q ∨ DTr d off (a.eval (.tmp t)).cells.toList.length q) w w G G' ∧
   ∀ j oe, (j, oe) ∈ own → ∃ c, (a.eval (.tmp t)).cells.toList[j]? = some c ∧ Own E.P G' w (.t d (off + j)) oe c := by
 obtain ⟨_, hr, hoo⟩ := hI.tm t _ _ ht
 obtain ⟨h1, av1⟩ := hI.clear ht
 have av2 : Av (DR (.t d)) (L.upds [.f (.t t), .t t (.v y, [])]) := (hav.f (.t t)).setT trivial (fun j oe hj => by cases hj)
 have hfl : Value.flat (a.eval (.tmp t)) = (a.eval (.tmp t)).cells.toList := Z4j (Z3p (u := a.eval (.tmp t)) hr hsol)
 have hS : Stp (fun q => DR (.t t) q ∨ DTr d off (a.eval (.tmp t)).cells.toList.length q) w w G (G.hand (Zs6 t d off) (pvR G.pv d off (a.eval (.tmp t)).cells.toList)) := Stp.hand hI
  (fun p hp => by
   simp only [not_or] at hp
   cases p with
   | b i j => rfl
   | t i j => simp only [DR] at hp; simp only [Zs6, if_neg hp.1]
   | a i j => rfl)
  (fun p hp => by
   simp only [not_or] at hp
   cases p with
   | b i j => rfl
   | t i j => simp only [DTr] at hp; simp only [pvR, if_neg hp.2]
   | a i j => rfl) (fun i j => rfl)
 refine ⟨G.hand (Zs6 t d off) (pvR G.pv d off (a.eval (.tmp t)).cells.toList), rfl, h1.step' (av1.or (av2.mono (fun q hq => Zf9 hq))) hS, av2, hS, fun j oe hj => ?_⟩
 obtain ⟨c, hc, hoc⟩ := hoo j oe hj
 have hc' : (Value.flat (a.eval (.tmp t)))[j]? = some c := hc
 rw [hfl] at hc'
 have hlt := (List.getElem?_eq_some_iff.1 hc').1
 refine ⟨c, hc', ?_⟩
 cases hw : oe.owner with
 | true =>
  refine hoc.hand hw (by simp [Zs6]) ?_
  show (if d = d ∧ off ≤ off + j ∧ off + j < off + (a.eval (.tmp t)).cells.toList.length then ((a.eval (.tmp t)).cells.toList[off + j - off]?).getD undef else _) = c
  rw [if_pos ⟨rfl, by omega, by omega⟩, Nat.add_sub_cancel_left, hc']
  rfl
 | false =>
  refine (hS.own ?_ hoc).al_any hw
  exact (Ze5 (d := d) hn hj hw).or ((Ze5 (d := d) (t := d) hnd hj hw).mono (fun q hq => Zf9 hq))
theorem Zma {ps : List (Nat × Nat)} {tk os : List Nat} : ∀ (parts : List (Nat × Operand)) (L : Look) (G : Gho) (cs : List AV) (own : OwnL) (cs' : List AV) (own' : OwnL) (pre : List Upd) (ob : List Prop) (us : Array Value),
  Zpo ps tk os d L parts cs own = some (cs', own', pre, ob) → (∀ p ∈ ob, p) → Inv E L a w G → Av (DR (.t d)) L → RelL G.X w cs us.toList →
  (∀ j oe, (j, oe) ∈ own → (oe.owner = false → okE (DR (.t d)) (.t d j) oe) ∧ ∃ c, us[j]? = some c ∧ Own E.P G w (.t d j) oe c) →
  ∃ us' G', Instr.fill (ps[·]?) us (parts.map fun p => (p.1, a.eval p.2)) = some us' ∧ Inv E (L.upds pre) a w G' ∧ Av (DR (.t d)) (L.upds pre) ∧ RelL G'.X w cs' us'.toList ∧
   (∀ j oe, (j, oe) ∈ own' → (oe.owner = false → okE (DR (.t d)) (.t d j) oe) ∧ ∃ c, us'[j]? = some c ∧ Own E.P G' w (.t d j) oe c)
 | [], L, G, cs, own, cs', own', pre, ob, us, hb, hob, hI, hav, hr, ho => by
  simp [Zpo] at hb
  obtain ⟨rfl, rfl, rfl, rfl⟩ := hb
  exact ⟨us, G, rfl, hI, hav, hr, ho⟩
 | (i, x) :: rest, L, G, cs, own, cs', own', pre, ob, us, hb, hob, hI, hav, hr, ho => by
  simp only [Zpo] at hb
  split at hb
  ·rename_i off s av o' pre1 hp hg
   split at hb
   ·rename_i hc
    simp only [Bool.and_eq_true, Nat.ble_eq, Bool.not_eq_true'] at hc
    obtain ⟨⟨⟨h12, h3⟩, h4⟩, h5⟩ := hc
    split at hb
    ·rename_i cs2 own2 pre2 ob2 hb2
     cases hb
     obtain ⟨h1, h2', hce⟩ := Zw0 h12 (fun p hp => hob p (List.mem_append_left _ hp))
     rw [hce] at hb2
     -- one part
     have one : ∃ G1, G1.X = G.X ∧ Inv E (L.upds pre1) a w G1 ∧ Av (DR (.t d)) (L.upds pre1) ∧ Rel G.X w av (a.eval x) ∧
       (∀ j oe, (j, oe) ∈ Zbz off s own → Own E.P G w (.t d j) oe ((us[j]?).getD undef) → Own E.P G1 w (.t d j) oe ((us[j]?).getD undef)) ∧
       ∀ j oe, (j, oe) ∈ o' → (oe.owner = false → okE (DR (.t d)) (.t d (off + j)) oe) ∧ ∃ c, (a.eval x).cells.toList[j]? = some c ∧ Own E.P G1 w (.t d (off + j)) oe c := by
      cases Z8v hI hg with
      | seen hr' hoo =>
       refine ⟨G, rfl, hI, hav, hr', fun j oe _ h => h, fun j oe hj => ?_⟩
       obtain ⟨h6, u, hu, h7⟩ := hoo j oe hj
       rw [Z4j (Z3p hr' h1)] at hu
       exact ⟨fun _ => Z6j (Zi h4 j oe hj) (fun h => by rw [h6] at h; cases h), u, hu, h7 _⟩
      | taken t y hx hs ht hn =>
       subst hx; cases hs
       simp only [apart, Bool.and_eq_true, Bool.not_eq_true'] at h5
       have htd : t ≠ d := Z57 h5.2
       obtain ⟨G1, e1, i1, a1, S1, o1⟩ := hI.takeTo hav htd ht hn h4 h1 off
       have hr' : Rel G.X w av (a.eval (.tmp t)) := (hI.tm t _ _ ht).2.1
       have hlen : (a.eval (.tmp t)).cells.toList.length = s := by rw [(Z2t hr' h1).length]; exact h2'
       refine ⟨G1, e1, i1, a1, hr', fun j oe hj h => ?_, fun j oe hj => ?_⟩
       ·refine S1.own ?_ h
        obtain ⟨hj1, hj2⟩ := Z6r hj
        cases hw : oe.owner with
        | true =>
         have : ¬ ((DR (.t t)) (.own (.t d j)) ∨ DTr d off (a.eval (.tmp t)).cells.toList.length (.own (.t d j))) := by
          rintro (hh | hh)
          ·exact htd hh.symm
          ·rw [hlen] at hh; exact hj2 hh.2
         cases oe with
         | app e => exact this
         | ex e dp xs => exact this
         | al q π => cases hw
         | sb q π lo sz n => cases hw
        | false =>
         exact (Z6j (Zi h5.1 j oe hj1) (fun h => by rw [hw] at h; cases h)).or (((ho j oe hj1).1 hw).mono (fun q hq => Zf9 hq))
       ·obtain ⟨c, hc, hoc⟩ := o1 j oe hj
        exact ⟨fun hw => Z6j (Zi h4 j oe hj) (fun h => by rw [hw] at h; cases h), c, hc, hoc⟩
     obtain ⟨G1, e1, i1, a1, hrel, keep, got⟩ := one
     have hcells := Z2t hrel h1
     have hl := hcells.length
     have hl2 := hr.length
     have husz : us.size = cs.length := by rw [← hl2]; simp
     have hust : us.toList.length = us.size := by simp
     have hcs : (a.eval x).cells.toList.length = s := by rw [hl]; exact h2'
     have hset : setAll us.toList off (a.eval x).cells.toList = us.toList.take off ++ (a.eval x).cells.toList ++ us.toList.drop (off + (a.eval x).cells.toList.length) := Z33 _ _ _ (by rw [hl]; simp; omega)
     obtain ⟨us', G2, f1, f2, f3, f4, f5⟩ := Zma rest (L.upds pre1) G1 _ _ cs' own' pre2 ob2 (setAll us.toList off (a.eval x).cells.toList).toArray hb2 (fun p hp => hob p (List.mem_append_right _ hp)) i1 a1 (by rw [e1]; simpa using RelL.setAll off hcells hr) (fun j oe hj => by
      have hget : ∀ c, us[j]? = some c → ¬ (off ≤ j ∧ j < off + s) → (setAll us.toList off (a.eval x).cells.toList)[j]? = some c := by
       intro c hc hn
       rw [hset]
       by_cases hjo : j < off
       ·rw [List.append_assoc, List.getElem?_append_left (by rw [List.length_take]; simp; omega), List.getElem?_take, if_pos hjo]; simpa using hc
       ·have hge : off + s ≤ j := by omega
        rw [List.getElem?_append_right (by rw [List.length_append, List.length_take, hcs, hust]; omega), List.getElem?_drop, List.length_append, List.length_take]
        have hmin : min off us.toList.length = off := Nat.min_eq_left (by simp; omega)
        rw [hmin, show off + (a.eval x).cells.toList.length + (j - (off + (a.eval x).cells.toList.length)) = j by omega]
        simpa using hc
      rcases List.mem_append.1 hj with hj | hj
      ·obtain ⟨hj1, hj2⟩ := Z6r hj
       obtain ⟨k1, c, k2, k3⟩ := ho j oe hj1
       refine ⟨k1, c, by simpa using hget c k2 hj2, ?_⟩
       have := keep j oe hj (by rw [k2]; exact k3)
       rw [k2] at this; exact this
      ·obtain ⟨q, rfl, hq⟩ := Ze6 hj
       obtain ⟨k1, c, k2, k3⟩ := got q oe hq
       refine ⟨k1, c, ?_, k3⟩
       have hql := (List.getElem?_eq_some_iff.1 k2).1
       simp only [List.getElem?_toArray]
       rw [hset, List.append_assoc, List.getElem?_append_right (by rw [List.length_take]; omega), List.length_take]
       have hmin : min off us.toList.length = off := Nat.min_eq_left (by simp; omega)
       rw [hmin, Nat.add_sub_cancel_left, List.getElem?_append_left hql]; exact k2)
     refine ⟨us', G2, ?_, by rw [Z1t]; exact f2, by rw [Z1t]; exact f3, f4, f5⟩
     rw [List.map_cons, Zox (place := (ps[·]?)) (off := off) (size := s) hp (by rw [← h2', ← hl]; simp) (by omega)]
     exact f1
    ·cases hb
   ·cases hb
  ·cases hb
theorem Zy2 {js : List Nat} {own : OwnL} {q : Nat × OE} (h : q ∈ nilO js own) : q ∈ own := by
 unfold nilO at h
 split at h
 ·exact h
 ·exact (List.mem_filter.1 h).1
theorem Zjl {X : Gh} : ∀ (js : List Nat) (zs : List AV) (us : List Value), RelL X w zs us → (∀ j : Nat, zs[j]? = some (.sl []) → us[j]? = some (.slice none 0 0)) → RelL X w (Zvi js zs) us
 | [], zs, us, h, _ => h
 | j :: js, zs, us, h, hz => by
  simp only [Zvi]
  split
  ·rename_i hj
   have h1 := RelL.set (c := .nil false) (u := .slice none 0 0) j h rfl
   have hu : us.set j (.slice none 0 0) = us := by
    apply List.ext_getElem?
    intro i
    rw [List.getElem?_set]
    split
    ·rename_i e
     subst e
     rw [hz j hj]
     split
     ·rfl
     ·rename_i hlt
      have := (List.getElem?_eq_some_iff.1 (hz j hj)).1
      omega
    ·rfl
   rw [hu] at h1
   refine Zjl js _ us h1 (fun i hi => ?_)
   rw [List.getElem?_set] at hi
   split at hi
   ·split at hi <;> cases hi
   ·exact hz i hi
  ·exact Zjl js zs us h hz
theorem Zht : ∀ {vs : List Value} {xs : List AV}, Z8h vs = some xs → ∀ j : Nat, xs[j]? = some (.sl []) → vs[j]? = some (.slice none 0 0)
 | [], xs, h, j, hj => by simp [Z8h] at h; subst h; simp at hj
 | v :: vs, xs, h, j, hj => by
  simp only [Z8h] at h
  split at h
  ·rename_i x xs' hx hxs
   cases h
   cases j with
   | zero =>
    simp at hj
    subst hj
    unfold Zcs at hx
    split at hx <;> first | (cases hx; done) | (cases hx; rfl)
   | succ j =>
    simp only [List.getElem?_cons_succ] at hj ⊢
    exact Zht hxs j hj
  ·cases h
theorem Z102 (hI : Inv E L a w G) (hd : o.dst = some d) (hlt : d < E.n) {T : TypeId} {parts : Array (Nat × Operand)} (ho : o.op = .build T parts) (hop : Zve E.P L d T parts.toList h = some (ups, obs)) (hob : ∀ p ∈ obs, p) : Does E L o a w ups := by
 unfold Zve at hop
 split at hop
 ·rename_i zs fs hz hT
  split at hop
  ·rename_i ps hps
   split at hop
   ·rename_i cs own pre ob hc
    cases hop
    obtain ⟨i, z, hi, hzz, hcz⟩ := Zdu hz
    obtain ⟨i1, a1⟩ := hI.fresh hlt
    have hS : Stp (DR (.t d)) w w G (G.hand id (pvR G.pv d 0 z.cells.toList)) := Stp.hand hI (fun p hp => rfl) (fun p hp => by
     cases p with
     | b i j => rfl
     | t i j => simp only [DR] at hp; simp only [pvR]; rw [if_neg (fun h => hp h.1)]
     | a i j => rfl) (fun i j => rfl)
    have i2 := i1.step' a1 hS
    obtain ⟨us', G2, f1, f2, f3, f4, f5⟩ := Zma parts.toList _ _ (Zvi h.io zs) (nilO h.io (Zgd E.P T)) cs own pre obs z.cells hc hob i2 a1 (Zjl _ _ _ (Z91 hcz) (Zht hcz)) (fun j oe hj => by
     replace hj := Zy2 hj
     obtain ⟨h3, e, rfl, h4⟩ := Zhb hi hzz hj
     refine ⟨(fun h => by cases h), _, h3, Zms h4 ?_⟩
     have hjl : j < z.cells.toList.length := by have := (Array.getElem?_eq_some_iff.1 h3).1; simpa using this
     show (if d = d ∧ 0 ≤ j ∧ j < 0 + z.cells.toList.length then (z.cells.toList[j - 0]?).getD undef else _) = _
     rw [if_pos ⟨rfl, by omega, by omega⟩, Nat.sub_zero, Array.getElem?_toList, h3]
     rfl)
    refine Zg hd (v := .agg us') (w' := w) ?_ ?_
    ·have hm : (fs.mapM fun f => do pure (f.offset, ← sizeOf f.type) : Sem (Array (Nat × Nat))).run E.P w = .ok ps.toArray w := by
      rw [Array.mapM_eq_mapM_toList]
      have := Zlf (P := E.P) (w := w) fs.toList ps hps
      simp only [Sem.run_map, this, Result.andThen_ok]
     have hp : (parts.map fun (x : Nat × Operand) => (x.1, a.eval x.2)).toList = parts.toList.map fun p => (p.1, a.eval p.2) := by simp
     simp only [execOp, ho, Instr.build, Sem.run_bind, Z9c hi hzz, Result.andThen_ok, Z4g hT, hm]
     simp only [hp, List.getElem?_toArray]
     rw [f1]
     simp
    ·rw [Z1t, Z1t]
     refine ⟨_, f2.setT hlt (sv := .v (.agg cs)) ⟨us'.toList, by simp, f4⟩ (fun j oe hj => ?_)⟩
     obtain ⟨_, c, hc, hoc⟩ := f5 j oe hj
     exact ⟨c, by simpa [Value.flat, Value.cells] using hc, hoc⟩
   ·cases hop
  ·cases hop
 ·cases hop
end Go.Bv

/- The data of the program as plain data. -/
import Derived.Test.YtjaaacbiaimdlaaGreatDoorProg
import Derived.Test.YtjaaacbiaimdlaaGreatDoorAve
import Derived.Test.YtjaaacbiaimdlaaGreatDoorItoa
import Derived.Test.YtjaaacbiaimdlaaGreatDoorIns
set_option linter.unusedVariables false
set_option linter.unusedSimpArgs false
namespace Go.Proofs.YtjaaacbiaimdlaaGreatDoor
open Go.RowKit Go.Bv
structure GXc where
 gB : List Int
 gI : Int
 gH : Int
def GXc.c (x : GXc) : List AV := [.sl (List.map cI.u8 x.gB), .int .i64 x.gI, .int .i64 x.gH]
theorem GXc.c_eq (x : GXc) : GXc.c x = [.sl (List.map cI.u8 x.gB), .int .i64 x.gI, .int .i64 x.gH] := rfl
def GXc.ok (x : GXc) : Prop := okL (okI .u8) x.gB ∧ okI .i64 x.gI ∧ okI .i64 x.gH
theorem GXc.c_len (x : GXc) : (GXc.c x).length = 3 := by rw [GXc.c_eq]; rfl
theorem GXc.c_leaf (x : GXc) : (GXc.c x).all AV.leaf = true := by rw [GXc.c_eq]; rfl
inductive Gt where
 | mk (gi : Int) (gn : ByteArray) (gj : Int) (ga : List Gt)
def Gt.gi : Gt → Int | .mk x _ _ _ => x
def Gt.gn : Gt → ByteArray | .mk _ x _ _ => x
def Gt.gj : Gt → Int | .mk _ _ x _ => x
def Gt.ga : Gt → List Gt | .mk _ _ _ x => x
mutual
def Gt.c : Gt → List AV
 | .mk gi gn gj ga => [.int .i64 gi, .str gn, .int .i64 gj, .sl (Gt.cs ga)]
def Gt.cs : List Gt → List (List AV)
 | [] => []
 | x :: l => Gt.c x :: Gt.cs l
end
theorem Gt.cs_eq : ∀ l : List Gt, Gt.cs l = l.map Gt.c
 | [] => by rw [Gt.cs]; rfl
 | x :: l => by rw [Gt.cs, Gt.cs_eq l]; rfl
theorem Gt.c_eq (x : Gt) : Gt.c x = [.int .i64 x.gi, .str x.gn, .int .i64 x.gj, .sl (List.map Gt.c x.ga)] := by
 cases x
 rw [Gt.c, Gt.cs_eq]
 rfl
inductive Gt.ok : Gt → Prop where
 | mk (gi : Int) (gn : ByteArray) (gj : Int) (ga : List Gt) : (okI .i64) gi → okFs gn → (okI .i64) gj → ga.length ≤ maxLen → (∀ x ∈ ga, Gt.ok x) → Gt.ok (.mk gi gn gj ga)
theorem Gt.c_len (x : Gt) : (Gt.c x).length = 4 := by rw [Gt.c_eq]; rfl
theorem Gt.c_leaf (x : Gt) : (Gt.c x).all AV.leaf = true := by rw [Gt.c_eq]; rfl
structure Gc where
 gA : Gt
 gD : Gt
 gS : ByteArray
def Gc.c (x : Gc) : List AV := [.int .i64 x.gA.gi, .str x.gA.gn, .int .i64 x.gA.gj, .sl (List.map Gt.c x.gA.ga), .int .i64 x.gD.gi, .str x.gD.gn, .int .i64 x.gD.gj, .sl (List.map Gt.c x.gD.ga), .str x.gS]
theorem Gc.c_eq (x : Gc) : Gc.c x = [.int .i64 x.gA.gi, .str x.gA.gn, .int .i64 x.gA.gj, .sl (List.map Gt.c x.gA.ga), .int .i64 x.gD.gi, .str x.gD.gn, .int .i64 x.gD.gj, .sl (List.map Gt.c x.gD.ga), .str x.gS] := rfl
def Gc.ok (x : Gc) : Prop := Gt.ok x.gA ∧ Gt.ok x.gD ∧ okFs x.gS
theorem Gc.c_len (x : Gc) : (Gc.c x).length = 9 := by rw [Gc.c_eq]; rfl
theorem Gc.c_leaf (x : Gc) : (Gc.c x).all AV.leaf = true := by rw [Gc.c_eq]; rfl
structure Gd where
 gq : List Gc
 gy : List ByteArray
def Gd.c (x : Gd) : List AV := [.sl (List.map Gc.c x.gq), .sl (List.map cS x.gy)]
theorem Gd.c_eq (x : Gd) : Gd.c x = [.sl (List.map Gc.c x.gq), .sl (List.map cS x.gy)] := rfl
def Gd.ok (x : Gd) : Prop := okL Gc.ok x.gq ∧ okL okFs x.gy
theorem Gd.c_len (x : Gd) : (Gd.c x).length = 2 := by rw [Gd.c_eq]; rfl
theorem Gd.c_leaf (x : Gd) : (Gd.c x).all AV.leaf = true := by rw [Gd.c_eq]; rfl
structure Gn where
 gi : Int
 gE : ByteArray
 gj : Int
 gAt : Int
 gQ : Bool
def Gn.c (x : Gn) : List AV := [.int .i64 x.gi, .str x.gE, .int .i64 x.gj, .int .i64 x.gAt, .bool x.gQ]
theorem Gn.c_eq (x : Gn) : Gn.c x = [.int .i64 x.gi, .str x.gE, .int .i64 x.gj, .int .i64 x.gAt, .bool x.gQ] := rfl
def Gn.ok (x : Gn) : Prop := okI .i64 x.gi ∧ okFs x.gE ∧ okI .i64 x.gj ∧ okI .i64 x.gAt ∧ okFb x.gQ
theorem Gn.c_len (x : Gn) : (Gn.c x).length = 5 := by rw [Gn.c_eq]; rfl
theorem Gn.c_leaf (x : Gn) : (Gn.c x).all AV.leaf = true := by rw [Gn.c_eq]; rfl
theorem Gn.c_scal (x : Gn) : (Gn.c x).all Zcx = true := by rw [Gn.c_eq]; rfl
structure GXr where
 ge : List Gn
 gAt : Int
 gJ : Bool
 gO : Int
 gG : List ByteArray
def GXr.c (x : GXr) : List AV := [.sl (List.map Gn.c x.ge), .int .i64 x.gAt, .bool x.gJ, .int .i64 x.gO, .sl (List.map cS x.gG)]
theorem GXr.c_eq (x : GXr) : GXr.c x = [.sl (List.map Gn.c x.ge), .int .i64 x.gAt, .bool x.gJ, .int .i64 x.gO, .sl (List.map cS x.gG)] := rfl
def GXr.ok (x : GXr) : Prop := okL Gn.ok x.ge ∧ okI .i64 x.gAt ∧ okFb x.gJ ∧ okI .i64 x.gO ∧ okL okFs x.gG
theorem GXr.c_len (x : GXr) : (GXr.c x).length = 5 := by rw [GXr.c_eq]; rfl
theorem GXr.c_leaf (x : GXr) : (GXr.c x).all AV.leaf = true := by rw [GXr.c_eq]; rfl
structure GOp where
 gn : ByteArray
 gV : Int
 gF : Int
 gX : Int
def GOp.c (x : GOp) : List AV := [.str x.gn, .int .i64 x.gV, .int .i64 x.gF, .int .i64 x.gX]
theorem GOp.c_eq (x : GOp) : GOp.c x = [.str x.gn, .int .i64 x.gV, .int .i64 x.gF, .int .i64 x.gX] := rfl
def GOp.ok (x : GOp) : Prop := okFs x.gn ∧ okI .i64 x.gV ∧ okI .i64 x.gF ∧ okI .i64 x.gX
theorem GOp.c_len (x : GOp) : (GOp.c x).length = 4 := by rw [GOp.c_eq]; rfl
theorem GOp.c_leaf (x : GOp) : (GOp.c x).all AV.leaf = true := by rw [GOp.c_eq]; rfl
theorem GOp.c_scal (x : GOp) : (GOp.c x).all Zcx = true := by rw [GOp.c_eq]; rfl
mutual
inductive Gf where
 | nil
 | mk (kind : Int) (goal : Gt) (mark : Int) (caught : Ga) (next : Gf)
inductive Ga where
 | nil
 | mk (place trail vars : Int) (goals : Gf) (ball third : Gt) (mark : Int) (behind : Gf)
end
mutual
def Gf.v : Gf → AV
 | .nil => .nil true
 | .mk k g m c n => .vptr [.int .i64 k, .int .i64 g.gi, .str g.gn, .int .i64 g.gj, .sl (List.map Gt.c g.ga), .int .i64 m, c.v, n.v]
def Ga.v : Ga → AV
 | .nil => .nil true
 | .mk p t v g b h m n => .vptr [.int .i64 p, .int .i64 t, .int .i64 v, g.v, .int .i64 0, .str (bs []), .int .i64 0, .sl [], .nil false, .int .i64 b.gi, .str b.gn, .int .i64 b.gj, .sl (List.map Gt.c b.ga), .int .i64 h.gi, .str h.gn, .int .i64 h.gj, .sl (List.map Gt.c h.ga), .int .i64 m, n.v]
end
def Gf.isNil : Gf → Bool | .nil => true | _ => false
def Ga.isNil : Ga → Bool | .nil => true | _ => false
def zT : Gt := .mk 0 (bs []) 0 []
def Gf.gi : Gf → Int | .mk k _ _ _ _ => k | .nil => 0
def Gf.gR : Gf → Gt | .mk _ g _ _ _ => g | .nil => zT
def Gf.gK : Gf → Int | .mk _ _ m _ _ => m | .nil => 0
def Gf.gC : Gf → Ga | .mk _ _ _ c _ => c | .nil => .nil
def Gf.gP : Gf → Gf | .mk _ _ _ _ n => n | .nil => .nil
def Ga.gAt : Ga → Int | .mk p _ _ _ _ _ _ _ => p | .nil => 0
def Ga.gL : Ga → Int | .mk _ t _ _ _ _ _ _ => t | .nil => 0
def Ga.gk : Ga → Int | .mk _ _ v _ _ _ _ _ => v | .nil => 0
def Ga.gh : Ga → Gf | .mk _ _ _ g _ _ _ _ => g | .nil => .nil
def Ga.gx : Ga → Gt | .mk _ _ _ _ b _ _ _ => b | .nil => zT
def Ga.gW : Ga → Gt | .mk _ _ _ _ _ h _ _ => h | .nil => zT
def Ga.gK : Ga → Int | .mk _ _ _ _ _ _ m _ => m | .nil => 0
def Ga.gM : Ga → Gf | .mk _ _ _ _ _ _ _ n => n | .nil => .nil
def Gf.cs (f : Gf) : List AV := [.int .i64 f.gi, .int .i64 f.gR.gi, .str f.gR.gn, .int .i64 f.gR.gj, .sl (List.map Gt.c f.gR.ga), .int .i64 f.gK, f.gC.v, f.gP.v]
def Ga.cs (f : Ga) : List AV := [.int .i64 f.gAt, .int .i64 f.gL, .int .i64 f.gk, f.gh.v, .int .i64 0, .str (bs []), .int .i64 0, .sl [], .nil false, .int .i64 f.gx.gi, .str f.gx.gn, .int .i64 f.gx.gj, .sl (List.map Gt.c f.gx.ga), .int .i64 f.gW.gi, .str f.gW.gn, .int .i64 f.gW.gj, .sl (List.map Gt.c f.gW.ga), .int .i64 f.gK, f.gM.v]
theorem Gf.v_ok {f : Gf} (h : f.isNil = false) : f.v = .vptr f.cs := by
 cases f
 ·cases h
 ·rw [Gf.v]; rfl
theorem Ga.v_ok {f : Ga} (h : f.isNil = false) : f.v = .vptr f.cs := by
 cases f
 ·cases h
 ·rw [Ga.v]; rfl
theorem Gf.nil_ok (f : Gf) : Znt true f.v f.isNil := by
 cases f
 ·rw [Gf.v]; exact ⟨rfl, rfl⟩
 ·rw [Gf.v]; exact ⟨rfl, rfl⟩
theorem Gf.nil_no (f : Gf) : Znt true f.v (!!f.isNil) := by rw [Bool.not_not]; exact f.nil_ok
theorem Gf.len (f : Gf) (o n : Nat) (hb : Nat.ble (o + n) 8 = true := by kernel_rfl) : n ≤ (f.cs.drop o).length := by
 have := Nat.le_of_ble_eq_true hb
 rw [List.length_drop, show f.cs.length = 8 from rfl]; omega
theorem Ga.len (f : Ga) (o n : Nat) (hb : Nat.ble (o + n) 19 = true := by kernel_rfl) : n ≤ (f.cs.drop o).length := by
 have := Nat.le_of_ble_eq_true hb
 rw [List.length_drop, show f.cs.length = 19 from rfl]; omega
structure GNp where
 gAt : Int
 gL : Int
 gk : Int
 gh : Gf
structure Gp where
 gAt : Int
 gL : Int
 gk : Int
 gh : Gf
 gN : Gt
 gF : List Gc
 gM : Gf
def GLeft.v : List Gc → AV
 | [] => .nil false
 | c :: l => .sl (List.map Gc.c (c :: l))
def Gp.suf (b : Gf) : List Gc → List AV
 | [] => []
 | _ :: _ => [.int .i64 0, .str (bs []), .int .i64 0, .sl [], .int .i64 0, .str (bs []), .int .i64 0, .sl [], .int .i64 0, b.v]
def Gp.cs (p : Gp) : List AV := .int .i64 p.gAt :: .int .i64 p.gL :: .int .i64 p.gk :: p.gh.v :: .int .i64 p.gN.gi :: .str p.gN.gn :: .int .i64 p.gN.gj :: .sl (List.map Gt.c p.gN.ga) :: GLeft.v p.gF :: Gp.suf p.gM p.gF
def Gp.v (p : Gp) : AV := .vptr p.cs
def Gp.c (p : Gp) : List AV := [p.v]
def Gp.fl (p : Gp) : List AV := [.int .i64 p.gAt, .int .i64 p.gL, .int .i64 p.gk, p.gh.v, .int .i64 p.gN.gi, .str p.gN.gn, .int .i64 p.gN.gj, .sl (List.map Gt.c p.gN.ga), .sl (List.map Gc.c p.gF), .int .i64 0, .str (bs []), .int .i64 0, .sl [], .int .i64 0, .str (bs []), .int .i64 0, .sl [], .int .i64 0, p.gM.v]
theorem Gp.v_ok {p : Gp} (h : p.gF.isEmpty = false) : p.v = .vptr p.fl := by
 obtain ⟨a, t, v, g, c, l, b⟩ := p
 cases l with
 | nil => cases h
 | cons x l => rfl
theorem Gp.c_len (p : Gp) : (Gp.c p).length = 1 := rfl
theorem Gp.c_leaf (p : Gp) : (Gp.c p).all AV.leaf = true := rfl
theorem Gp.len (p : Gp) (o n : Nat) (hb : Nat.ble (o + n) 9 = true := by kernel_rfl) : n ≤ (p.cs.drop o).length := by
 have := Nat.le_of_ble_eq_true hb
 rw [List.length_drop, show p.cs.length = (Gp.suf p.gM p.gF).length + 9 from rfl]; omega
theorem Gp.lenf (p : Gp) (o n : Nat) (hb : Nat.ble (o + n) 19 = true := by kernel_rfl) : n ≤ (p.fl.drop o).length := by
 have := Nat.le_of_ble_eq_true hb
 rw [List.length_drop, show p.fl.length = 19 from rfl]; omega
theorem GLeft.nil_ok (l : List Gc) : Znt false (GLeft.v l) l.isEmpty := by
 cases l
 ·exact ⟨rfl, rfl⟩
 ·exact ⟨rfl, rfl⟩
theorem GLeft.v_leaf (l : List Gc) : (GLeft.v l).leaf = true := by cases l <;> rfl
theorem Gf.v_leaf (f : Gf) : f.v.leaf = true := by cases f <;> rw [Gf.v] <;> rfl
theorem Ga.v_leaf (f : Ga) : f.v.leaf = true := by cases f <;> rw [Ga.v] <;> rfl
theorem GLeft.nil_no (l : List Gc) : Znt false (GLeft.v l) (!!l.isEmpty) := by rw [Bool.not_not]; exact GLeft.nil_ok l
structure Gu where
 ge : List Gt
 gd : List Int
 gu : Int
def Gu.c (x : Gu) : List AV := [.sl (List.map Gt.c x.ge), .sl (List.map cI.i64 x.gd), .int .i64 x.gu]
theorem Gu.c_eq (x : Gu) : Gu.c x = [.sl (List.map Gt.c x.ge), .sl (List.map cI.i64 x.gd), .int .i64 x.gu] := rfl
def Gu.ok (x : Gu) : Prop := okL Gt.ok x.ge ∧ okL (okI .i64) x.gd ∧ okI .i64 x.gu
theorem Gu.c_len (x : Gu) : (Gu.c x).length = 3 := by rw [Gu.c_eq]; rfl
theorem Gu.c_leaf (x : Gu) : (Gu.c x).all AV.leaf = true := by rw [Gu.c_eq]; rfl
structure Gw where
 gp : List Gt
 gz : Int
 gx : Gt
 gf : ByteArray
 gDb : Gd
 gl : Int
def Gw.c (x : Gw) : List AV := [.sl (List.map Gt.c x.gp), .int .i64 x.gz, .int .i64 x.gx.gi, .str x.gx.gn, .int .i64 x.gx.gj, .sl (List.map Gt.c x.gx.ga), .str x.gf, .sl (List.map Gc.c x.gDb.gq), .sl (List.map cS x.gDb.gy), .int .i64 x.gl]
theorem Gw.c_eq (x : Gw) : Gw.c x = [.sl (List.map Gt.c x.gp), .int .i64 x.gz, .int .i64 x.gx.gi, .str x.gx.gn, .int .i64 x.gx.gj, .sl (List.map Gt.c x.gx.ga), .str x.gf, .sl (List.map Gc.c x.gDb.gq), .sl (List.map cS x.gDb.gy), .int .i64 x.gl] := rfl
def Gw.ok (x : Gw) : Prop := okL Gt.ok x.gp ∧ okI .i64 x.gz ∧ Gt.ok x.gx ∧ okFs x.gf ∧ Gd.ok x.gDb ∧ okI .i64 x.gl
theorem Gw.c_len (x : Gw) : (Gw.c x).length = 10 := by rw [Gw.c_eq]; rfl
theorem Gw.c_leaf (x : Gw) : (Gw.c x).all AV.leaf = true := by rw [Gw.c_eq]; rfl
structure Gs where
 gDb : Gd
 gU : Gu
 gk : Int
 gl : Int
 gw : Int
 gh : Gf
 gc : List Gp
 gf : Gw
 gv : Bool
def Gs.c (x : Gs) : List AV := [.sl (List.map Gc.c x.gDb.gq), .sl (List.map cS x.gDb.gy), .sl (List.map Gt.c x.gU.ge), .sl (List.map cI.i64 x.gU.gd), .int .i64 x.gU.gu, .int .i64 x.gk, .int .i64 x.gl, .int .i64 x.gw, Gf.v x.gh, .sl (List.map Gp.c x.gc), .sl (List.map Gt.c x.gf.gp), .int .i64 x.gf.gz, .int .i64 x.gf.gx.gi, .str x.gf.gx.gn, .int .i64 x.gf.gx.gj, .sl (List.map Gt.c x.gf.gx.ga), .str x.gf.gf, .sl (List.map Gc.c x.gf.gDb.gq), .sl (List.map cS x.gf.gDb.gy), .int .i64 x.gf.gl, .bool x.gv]
theorem Gs.c_eq (x : Gs) : Gs.c x = [.sl (List.map Gc.c x.gDb.gq), .sl (List.map cS x.gDb.gy), .sl (List.map Gt.c x.gU.ge), .sl (List.map cI.i64 x.gU.gd), .int .i64 x.gU.gu, .int .i64 x.gk, .int .i64 x.gl, .int .i64 x.gw, Gf.v x.gh, .sl (List.map Gp.c x.gc), .sl (List.map Gt.c x.gf.gp), .int .i64 x.gf.gz, .int .i64 x.gf.gx.gi, .str x.gf.gx.gn, .int .i64 x.gf.gx.gj, .sl (List.map Gt.c x.gf.gx.ga), .str x.gf.gf, .sl (List.map Gc.c x.gf.gDb.gq), .sl (List.map cS x.gf.gDb.gy), .int .i64 x.gf.gl, .bool x.gv] := rfl
theorem Gs.c_len (x : Gs) : (Gs.c x).length = 21 := by rw [Gs.c_eq]; rfl
abbrev Gw.q (x : Gw) : List AV := [.sl (List.map Gt.c x.gp), .int .i64 x.gz, .int .i64 x.gx.gi, .str x.gx.gn, .int .i64 x.gx.gj, .sl (List.map Gt.c x.gx.ga), .str x.gf, .sl (List.map Gc.c x.gDb.gq), .sl (List.map cS x.gDb.gy), .int .i64 x.gl]
abbrev Gc.q (x : Gc) : List AV := [.int .i64 x.gA.gi, .str x.gA.gn, .int .i64 x.gA.gj, .sl (List.map Gt.c x.gA.ga), .int .i64 x.gD.gi, .str x.gD.gn, .int .i64 x.gD.gj, .sl (List.map Gt.c x.gD.ga), .str x.gS]
abbrev Gc.qx (x : Gc) : List AV := [.int .i64 x.gA.gi, .str x.gA.gn, .int .i64 x.gA.gj, .slx, .int .i64 x.gD.gi, .str x.gD.gn, .int .i64 x.gD.gj, .slx, .str x.gS]
abbrev Gn.q (x : Gn) : List AV := [.int .i64 x.gi, .str x.gE, .int .i64 x.gj, .int .i64 x.gAt, .bool x.gQ]
abbrev Gt.q (x : Gt) : List AV := [.int .i64 x.gi, .str x.gn, .int .i64 x.gj, .sl (List.map Gt.c x.ga)]
abbrev Gt.qx (x : Gt) : List AV := [.int .i64 x.gi, .str x.gn, .int .i64 x.gj, .slx]
abbrev GOp.q (x : GOp) : List AV := [.str x.gn, .int .i64 x.gV, .int .i64 x.gF, .int .i64 x.gX]
abbrev GXc.q (x : GXc) : List AV := [.sl (List.map cI.u8 x.gB), .int .i64 x.gI, .int .i64 x.gH]
abbrev Gd.q (x : Gd) : List AV := [.sl (List.map Gc.c x.gq), .sl (List.map cS x.gy)]
abbrev Gs.k (x : Gs) : List AV := [.sl (List.map Gc.c x.gDb.gq), .sl (List.map cS x.gDb.gy), .slx, .slx, aI x.gU.gu, aI x.gk, aI x.gl, aI x.gw, Gf.v x.gh, .slx, .slx, aI x.gf.gz, aI x.gf.gx.gi, .str x.gf.gx.gn, aI x.gf.gx.gj, .sl (List.map Gt.c x.gf.gx.ga), .str x.gf.gf, .sl (List.map Gc.c x.gf.gDb.gq), .sl (List.map cS x.gf.gDb.gy), aI x.gf.gl, .bool x.gv]
abbrev Gs.kr (hv0 : Value) (x : Gs) : List AV := [.sl (List.map Gc.c x.gDb.gq), .sl (List.map cS x.gDb.gy), .raw hv0, .slx, aI x.gU.gu, aI x.gk, aI x.gl, aI x.gw, Gf.v x.gh, .slx, .slx, aI x.gf.gz, aI x.gf.gx.gi, .str x.gf.gx.gn, aI x.gf.gx.gj, .sl (List.map Gt.c x.gf.gx.ga), .str x.gf.gf, .sl (List.map Gc.c x.gf.gDb.gq), .sl (List.map cS x.gf.gDb.gy), aI x.gf.gl, .bool x.gv]
abbrev Gs.h (x : Gs) : OwnL := [(2, .ex 31 false (List.map Gt.c x.gU.ge)), (3, .ex 3 false (List.map cI.i64 x.gU.gd)), (9, .ex 78 false (List.map Gp.c x.gc)), (10, .ex 31 false (List.map Gt.c x.gf.gp))]
abbrev Gn.z : List AV := [aI 0, .str (bs []), aI 0, aI 0, .bool false]
abbrev GXr.k2 (x : GXr) : List AV := [.sl (List.map Gn.c x.ge), aI x.gAt, .bool x.gJ, aI x.gO, .slx]
abbrev GXr.h4_9f (x : GXr) : OwnL := [(4, .ex 9 false (List.map cS x.gG))]
abbrev Gt.z : List AV := [aI 0, .str (bs []), aI 0, .sl (List.map Gt.c [])]
abbrev Gt.h3_31t (x : Gt) : OwnL := [(3, .ex 31 true (List.map Gt.c x.ga))]
abbrev GOp.z : List AV := [.str (bs []), aI 0, aI 0, aI 0]
abbrev Gd.z : List AV := [.sl (List.map Gc.c []), .sl (List.map cS [])]
theorem hmix : Tryz.prog.follows .mixedOrders = true := by kernel_rfl
theorem Z11n : ∃ g, Tryz.prog.globalNamed tab10 = some g := Option.isSome_iff_exists.1 (by kernel_rfl)
abbrev eX (s : ByteArray) (n : Int) : ByteArray := s.extract n.toNat (wr.i64 (n + 1)).toNat
abbrev bX0 (n : Nat) : Nat × BX := (n, .cells Gt.z [(3, .app 31)])
end Go.Proofs.YtjaaacbiaimdlaaGreatDoor

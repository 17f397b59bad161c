/- The data of the program as plain data. -/
import Derived.Test.YtjgagbajgdmocaaProg
import Derived.Test.YtjgagbajgdmocaaAvc
set_option linter.unusedVariables false
set_option linter.unusedSimpArgs false
namespace Go.Proofs.Ytjgagbajgdmocaa
open Go.RowKit Go.Bv
structure GPart where
  gWord : Bool
  gName : ByteArray
def GPart.c (x : GPart) : List AV := [.bool x.gWord, .str x.gName]
theorem GPart.c_eq (x : GPart) : GPart.c x = [.bool x.gWord, .str x.gName] := rfl
def GPart.ok (x : GPart) : Prop := okFb x.gWord ∧ okFs x.gName
theorem GPart.c_len (x : GPart) : (GPart.c x).length = 2 := by rw [GPart.c_eq]; rfl
theorem GPart.c_leaf (x : GPart) : (GPart.c x).all AV.leaf = true := by rw [GPart.c_eq]; rfl
theorem GPart.c_scal (x : GPart) : (GPart.c x).all scal1 = true := by rw [GPart.c_eq]; rfl
structure GRule where
  gName : ByteArray
  gParts : List GPart
def GRule.c (x : GRule) : List AV := [.str x.gName, .sl (List.map GPart.c x.gParts)]
theorem GRule.c_eq (x : GRule) : GRule.c x = [.str x.gName, .sl (List.map GPart.c x.gParts)] := rfl
def GRule.ok (x : GRule) : Prop := okFs x.gName ∧ okL GPart.ok x.gParts
theorem GRule.c_len (x : GRule) : (GRule.c x).length = 2 := by rw [GRule.c_eq]; rfl
theorem GRule.c_leaf (x : GRule) : (GRule.c x).all AV.leaf = true := by rw [GRule.c_eq]; rfl
theorem hmix : Try.prog.follows .mixedOrders = true := by kernel_rfl
end Go.Proofs.Ytjgagbajgdmocaa

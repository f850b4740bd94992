/- Texts of this claim. -/
import Derived.Test.YtapfdhaohgkjeaaHAll
-- printed by xprint.py of this repo. Not trusted: Lean checks it.
namespace Go.Proofs.Ytapfdhaohgkjeaa.XP
open Go.RowKit Go.Proofs.YtapfdhaohgkjeaaW.PrintWords Go.Proofs.YtapfdhaohgkjeaaW.PrintLast Go.Proofs.YtapfdhaohgkjeaaW.PrintMore
attribute [local go_sem] max2_int min2_int max_two min_two max_three min_three max_four min_four   -- for this text's walks alone
set_option linter.unusedVariables false
set_option linter.unusedSimpArgs false

/-! ### bitemporalref03_Join: function 49 -/
def bitemporalref03_Join.f (l0 : List (S38)) (a1_0 : Int) (a1_1 : Int) : Option ((List (S38))) := if (l0.length : Int) > 0 then (if 0 ≤ (wrap64 ((l0.length : Int) - 1)) then (if (wrap64 ((l0.length : Int) - 1)) < (l0.length : Int) then (if ((rd_T38 l0 (wrap64 ((l0.length : Int) - 1))).f1) ≥ a1_0 then (if (wrap64 ((l0.length : Int) - 1)) ≤ (l0.length : Int) then ((some (l0.take ((wrap64 ((l0.length : Int) - 1)) : Int).toNat : List (S38))).bind fun y341 => (if ([] : List (S38)).length + y341.length < 8796093022208 then ((some (([] : List (S38)) ++ y341 : List (S38))).bind fun y345 => (if y345.length < 8796093022208 then (some (y345 ++ [(⟨(rd_T38 l0 (wrap64 ((l0.length : Int) - 1))).f0, mx ((rd_T38 l0 (wrap64 ((l0.length : Int) - 1))).f1) a1_1⟩ : S38)])) else (none))) else (none))) else (none)) else (if l0.length < 8796093022208 then (some (l0 ++ [(⟨a1_0, a1_1⟩ : S38)])) else (none))) else (none)) else (none)) else (if l0.length < 8796093022208 then (some (l0 ++ [(⟨a1_0, a1_1⟩ : S38)])) else (none))
def bitemporalref03_Join.T2 : Bool × List (List Nat × List Nat) := (true, [([], []), ([0], [0]), ([1], [1]), ([2], [2]), ([2], [2]), ([4, 2], [2, 4]), ([3, 5, 2], [2, 3, 5]), ([6, 2], [2, 6]), ([7, 2], [2, 7]), ([2], [2]), ([9, 2], [2, 9]), ([8, 10, 2], [2, 8, 10]), ([2, 11], [2, 11])])
def bitemporalref03_Join.B2 : List Nat := [0, 1, 3, 7, 7, 23, 63, 127, 255, 7, 519, 2047, 4095]
def bitemporalref03_Join.T5 : Bool × List (List Nat × List Nat) := (true, [([], []), ([], []), ([], []), ([2], [2]), ([1, 3], [1, 3]), ([4], [4]), ([5], [5]), ([], []), ([], []), ([8], [8]), ([7, 9], [7, 9]), ([10], [10]), ([11], [11]), ([], []), ([13], [13]), ([12, 14], [12, 14]), ([6, 15], [6, 15]), ([16], [16]), ([0, 17], [0, 17]), ([18, 18, 0, 1, 2, 3, 4, 5, 6, 7, 8, 9, 10, 11, 12, 13, 14, 15, 16, 17, 18], [18])])
def bitemporalref03_Join.B5 : List Nat := [0, 0, 0, 4, 14, 30, 62, 0, 0, 256, 896, 1920, 3968, 0, 8192, 32640, 65534, 131070, 262143, 524287]

end Go.Proofs.Ytapfdhaohgkjeaa.XP

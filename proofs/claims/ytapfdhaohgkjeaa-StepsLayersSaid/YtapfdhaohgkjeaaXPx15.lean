/- Texts of this claim. -/
import Derived.Test.YtapfdhaohgkjeaaHAll
import Derived.Test.YtapfdhaohgkjeaaXPx14
-- printed by xprint.py of this repo. Not trusted: Lean checks it.
namespace Go.Proofs.Ytapfdhaohgkjeaa.XP
open Go.RowKit Go.Proofs.YtapfdhaohgkjeaaW.PrintWords Go.Proofs.YtapfdhaohgkjeaaW.PrintLast Go.Proofs.YtapfdhaohgkjeaaW.PrintMore
attribute [local go_sem] max2_int min2_int max_two min_two max_three min_three max_four min_four   -- for this text's walks alone
set_option linter.unusedVariables false
set_option linter.unusedSimpArgs false

/-! ### bitemporalref04_place: function 55 -/
def bitemporalref04_place.l0 : Nat → List (S38) → List (S38) → Int → Int → Int → Option ((List (S38)))
 | 0, _, _, _, _, _ => none
 | k + 1, x0, x5, x6, x374000, x374001 => if x6 < (x0.length : Int) then (if 0 ≤ x6 then ((bitemporalref01_Compare.f ((rd_T38 x0 x6).f0) ((rd_T38 x0 x6).f1) x374000 x374001).bind fun t375 => (if t375 ≤ 0 then (if x5.length < 8796093022208 then (bitemporalref04_place.l0 k x0 (x5 ++ [(⟨(rd_T38 x0 x6).f0, (rd_T38 x0 x6).f1⟩ : S38)]) (wrap64 (x6 + 1)) x374000 x374001) else (none)) else (if x5.length < 8796093022208 then ((some (x5 ++ [(⟨x374000, x374001⟩ : S38)] : List (S38))).bind fun y380 => (if x6 ≤ (x0.length : Int) then ((some (x0.drop (x6 : Int).toNat : List (S38))).bind fun y383 => (if y380.length + y383.length < 8796093022208 then (some (y380 ++ y383)) else (none))) else (none))) else (none)))) else (none)) else (if x5.length < 8796093022208 then ((some (x5 ++ [(⟨x374000, x374001⟩ : S38)] : List (S38))).bind fun y390 => (if 0 ≤ x6 then (if x6 ≤ (x0.length : Int) then ((some (x0.drop (x6 : Int).toNat : List (S38))).bind fun y393 => (if y390.length + y393.length < 8796093022208 then (some (y390 ++ y393)) else (none))) else (none)) else (none))) else (none))
def bitemporalref04_place.f (k : Nat) (l0 : List (S38)) (a1_0 : Int) (a1_1 : Int) : Option ((List (S38))) := bitemporalref04_place.l0 k l0 ([] : List (S38)) 0 a1_0 a1_1
def bitemporalref04_place.T3 : Bool × List (List Nat × List Nat) := (true, [([], []), ([], []), ([1], [1]), ([0, 2], [0, 2]), ([3], [3]), ([4], [4]), ([4], [4]), ([5, 6, 4], [4, 5, 6]), ([7, 4], [4, 7]), ([4], [4]), ([8, 9, 4, 4], [4, 8, 9]), ([10, 4], [4, 10]), ([4, 11], [4, 11])])
def bitemporalref04_place.B3 : List Nat := [0, 0, 2, 7, 15, 31, 31, 127, 255, 31, 1023, 2047, 4095]

/-! ### bitemporalref04_Levels: function 21 -/
mutual
def bitemporalref04_Levels.l0 : Nat → List (S48) → List (S38) → Int → Option ((List (S38)))
 | 0, _, _, _ => none
 | k + 1, x0, x3, x4 => if x4 ≤ 1048576 then ((bitemporalref04_AtLeast.f k x0 x4).bind fun t400 => (if (t400.length : Int) = 0 then (some x3) else (bitemporalref04_Levels.l1 k x0 x3 x4 t400 0))) else (some x3)
def bitemporalref04_Levels.l1 : Nat → List (S48) → List (S38) → Int → List (S38) → Int → Option ((List (S38)))
 | 0, _, _, _, _, _ => none
 | k + 1, x0, x3, x4, x5, x6 => if x6 < (x5.length : Int) then (if 0 ≤ x6 then ((bitemporalref04_place.f k x3 ((rd_T38 x5 x6).f0) ((rd_T38 x5 x6).f1)).bind fun t404 => (bitemporalref04_Levels.l1 k x0 t404 x4 x5 (wrap64 (x6 + 1)))) else (none)) else (bitemporalref04_Levels.l0 k x0 x3 (wrap64 (x4 + 1)))
end
def bitemporalref04_Levels.f (k : Nat) (l0 : List (S48)) : Option ((List (S38))) := bitemporalref04_Levels.l0 k l0 ([] : List (S38)) 1

end Go.Proofs.Ytapfdhaohgkjeaa.XP

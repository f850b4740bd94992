/- Texts of this claim. -/
import Derived.Test.YtapfdhaohgkjeaaHAll
import Derived.Test.YtapfdhaohgkjeaaXPx13
-- printed by xprint.py of this repo. Not trusted: Lean checks it.
namespace Go.Proofs.Ytapfdhaohgkjeaa.XP
open Go.RowKit Go.Proofs.YtapfdhaohgkjeaaW.PrintWords Go.Proofs.YtapfdhaohgkjeaaW.PrintLast Go.Proofs.YtapfdhaohgkjeaaW.PrintMore
attribute [local go_sem] max2_int min2_int max_two min_two max_three min_three max_four min_four   -- for this text's walks alone
set_option linter.unusedVariables false
set_option linter.unusedSimpArgs false

/-! ### bitemporalref04_AtLeast: function 18 -/
def bitemporalref04_AtLeast.l0 : Nat → List (S48) → Int → List (S38) → Int → Option ((List (S38)))
 | 0, _, _, _, _ => none
 | k + 1, x0, x1, x5, x6 => if x6 < (x0.length : Int) then (if (wrap64 (x6 + 1)) < (x0.length : Int) then (if 0 ≤ (wrap64 (x6 + 1)) then (if 0 ≤ x6 then (if ((rd_T48 x0 x6).f1) ≥ x1 then ((bitemporalref03_Join.f x5 ((rd_T48 x0 x6).f0) ((rd_T48 x0 (wrap64 (x6 + 1))).f0)).bind fun t362 => (bitemporalref04_AtLeast.l0 k x0 x1 t362 (wrap64 (x6 + 1)))) else (bitemporalref04_AtLeast.l0 k x0 x1 x5 (wrap64 (x6 + 1)))) else (none)) else (none)) else (if 0 ≤ x6 then (if ((rd_T48 x0 x6).f1) ≥ x1 then ((bitemporalref03_Join.f x5 ((rd_T48 x0 x6).f0) 1099511627776).bind fun t367 => (bitemporalref04_AtLeast.l0 k x0 x1 t367 (wrap64 (x6 + 1)))) else (bitemporalref04_AtLeast.l0 k x0 x1 x5 (wrap64 (x6 + 1)))) else (none))) else (some x5)
def bitemporalref04_AtLeast.f (k : Nat) (l0 : List (S48)) (a1 : Int) : Option ((List (S38))) := bitemporalref04_AtLeast.l0 k l0 a1 ([] : List (S38)) 0

/-! ### bitemporalref04_Greatest: function 19 -/
def bitemporalref04_Greatest.l0 : Nat → List (S48) → Int → Int → Option (Int)
 | 0, _, _, _ => none
 | k + 1, x0, x3, x4 => if x4 < (x0.length : Int) then (if x4 = 0 then (if 0 ≤ x4 then (bitemporalref04_Greatest.l0 k x0 ((rd_T48 x0 x4).f1) (wrap64 (x4 + 1))) else (none)) else (if 0 ≤ x4 then (if ((rd_T48 x0 x4).f1) > x3 then (bitemporalref04_Greatest.l0 k x0 ((rd_T48 x0 x4).f1) (wrap64 (x4 + 1))) else (bitemporalref04_Greatest.l0 k x0 x3 (wrap64 (x4 + 1)))) else (none))) else (some x3)
def bitemporalref04_Greatest.f (k : Nat) (l0 : List (S48)) : Option (Int) := bitemporalref04_Greatest.l0 k l0 0 0

-- by hand: function 23 (bitemporalref01_Compare): bitemporalref01_Compare

end Go.Proofs.Ytapfdhaohgkjeaa.XP

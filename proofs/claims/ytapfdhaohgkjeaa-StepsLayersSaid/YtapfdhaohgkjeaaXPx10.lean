/- Texts of this claim. -/
import Derived.Test.YtapfdhaohgkjeaaHAll
import Derived.Test.YtapfdhaohgkjeaaXPx9
-- printed by xprint.py of this repo. Not trusted: Lean checks it.
namespace Go.Proofs.Ytapfdhaohgkjeaa.XP
open Go.RowKit Go.Proofs.YtapfdhaohgkjeaaW.PrintWords Go.Proofs.YtapfdhaohgkjeaaW.PrintLast Go.Proofs.YtapfdhaohgkjeaaW.PrintMore
attribute [local go_sem] max2_int min2_int max_two min_two max_three min_three max_four min_four   -- for this text's walks alone
set_option linter.unusedVariables false
set_option linter.unusedSimpArgs false

/-! ### bitemporalref04_put: function 48 -/
def bitemporalref04_put.f (l0 : List (S48)) (a1 : Int) (a2 : Int) : Option ((List (S48))) := if (l0.length : Int) > 0 then (if 0 ≤ (wrap64 ((l0.length : Int) - 1)) then (if (wrap64 ((l0.length : Int) - 1)) < (l0.length : Int) then (if ((rd_T48 l0 (wrap64 ((l0.length : Int) - 1))).f1) = a2 then (some l0) else (if l0.length < 8796093022208 then (some (l0 ++ [(⟨a1, a2⟩ : S48)])) else (none))) else (none)) else (none)) else (if l0.length < 8796093022208 then (some (l0 ++ [(⟨a1, a2⟩ : S48)])) else (none))

/-! ### bitemporalref04_Of: function 14 -/
mutual
def bitemporalref04_Of.l0 : Nat → List (S40) → List Int → Int → Option ((List (S48)))
 | 0, _, _, _ => none
 | k + 1, x0, x3, x4 => if x4 < (x0.length : Int) then (if 0 ≤ x4 then ((bitemporalref01_Valid.f ((rd_T40 x0 x4).f0.f0) ((rd_T40 x0 x4).f0.f1)).bind fun t290 => (if t290 = true then ((bitemporalref03_Insert.f k x3 ((rd_T40 x0 x4).f0.f0)).bind fun t292 => ((bitemporalref03_Insert.f k t292 ((rd_T40 x0 x4).f0.f1)).bind fun t296 => (bitemporalref04_Of.l0 k x0 t296 (wrap64 (x4 + 1))))) else (bitemporalref04_Of.l0 k x0 x3 (wrap64 (x4 + 1))))) else (none)) else (bitemporalref04_Of.l1 k x0 x3 ([] : List (S48)) 0)
def bitemporalref04_Of.l1 : Nat → List (S40) → List Int → List (S48) → Int → Option ((List (S48)))
 | 0, _, _, _, _ => none
 | k + 1, x0, x3, x5, x6 => if x6 < (x3.length : Int) then (if 0 ≤ x6 then (bitemporalref04_Of.j2 k x0 x3 x5 x6 (decide ((rd x3 x6) < 1099511627776))) else (none)) else (bitemporalref04_Of.j2 k x0 x3 x5 x6 false)
def bitemporalref04_Of.j2 : Nat → List (S40) → List Int → List (S48) → Int → Bool → Option ((List (S48)))
 | 0, _, _, _, _, _ => none
 | k + 1, x0, x3, x5, x6, x48 => if x48 = true then (bitemporalref04_Of.l2 k x0 x3 x5 x6 0 0) else (some x5)
def bitemporalref04_Of.l2 : Nat → List (S40) → List Int → List (S48) → Int → Int → Int → Option ((List (S48)))
 | 0, _, _, _, _, _, _ => none
 | k + 1, x0, x3, x5, x6, x7, x8 => if x8 < (x0.length : Int) then (if 0 ≤ x8 then (if 0 ≤ x6 then (if x6 < (x3.length : Int) then ((bitemporalref01_Contains.f ((rd_T40 x0 x8).f0.f0) ((rd_T40 x0 x8).f0.f1) (rd x3 x6)).bind fun t302 => (if t302 = true then (bitemporalref04_Of.l2 k x0 x3 x5 x6 (wrap64 (x7 + ((rd_T40 x0 x8).f1))) (wrap64 (x8 + 1))) else (bitemporalref04_Of.l2 k x0 x3 x5 x6 x7 (wrap64 (x8 + 1))))) else (none)) else (none)) else (none)) else (if 0 ≤ x6 then (if x6 < (x3.length : Int) then ((bitemporalref04_put.f x5 (rd x3 x6) x7).bind fun t305 => (bitemporalref04_Of.l1 k x0 x3 t305 (wrap64 (x6 + 1)))) else (none)) else (none))
end
def bitemporalref04_Of.f (k : Nat) (l0 : List (S40)) : Option ((List (S48))) := bitemporalref04_Of.l0 k l0 (([0] : List Int)) 0
def bitemporalref04_Of.T16 : Bool × List (List Nat × List Nat) := (true, [([], []), ([], []), ([0, 1], [0, 1]), ([2], [2]), ([3], [3]), ([], []), ([], []), ([5, 6], [5, 6]), ([7], [7]), ([4, 8], [4, 8])])
def bitemporalref04_Of.B16 : List Nat := [0, 0, 3, 7, 15, 0, 0, 96, 224, 511]

end Go.Proofs.Ytapfdhaohgkjeaa.XP

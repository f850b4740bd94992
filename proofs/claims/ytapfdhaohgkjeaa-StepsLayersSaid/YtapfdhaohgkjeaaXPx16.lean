/- Texts of this claim. -/
import Derived.Test.YtapfdhaohgkjeaaHAll
import Derived.Test.YtapfdhaohgkjeaaXPx8
import Derived.Test.YtapfdhaohgkjeaaXPx9
import Derived.Test.YtapfdhaohgkjeaaXPx10
import Derived.Test.YtapfdhaohgkjeaaXPx12
import Derived.Test.YtapfdhaohgkjeaaXPx14
import Derived.Test.YtapfdhaohgkjeaaXPx15
-- printed by xprint.py of this repo. Not trusted: Lean checks it.
namespace Go.Proofs.Ytapfdhaohgkjeaa.XP
open Go.RowKit Go.Proofs.YtapfdhaohgkjeaaW.PrintWords Go.Proofs.YtapfdhaohgkjeaaW.PrintLast Go.Proofs.YtapfdhaohgkjeaaW.PrintMore
attribute [local go_sem] max2_int min2_int max_two min_two max_three min_three max_four min_four   -- for this text's walks alone
set_option linter.unusedVariables false
set_option linter.unusedSimpArgs false

/-! ### bitemporallaw04_StepsLevels: function 4 -/
def bitemporallaw04_StepsLevels.f (k : Nat) (l0 : List (S48)) (a1 : Int) : Option (Bool) := (bitemporallaw04_fine.f k l0).bind fun t407 => (if t407 = true then ((steps_AtLeast.f k l0 a1).bind fun t409 => ((bitemporalref04_AtLeast.f k l0 a1).bind fun t412 => ((bitemporalref01_Same.f k t409 t412).bind fun t415 => (if t415 = true then ((bitemporalref04_Greatest.f k l0).bind fun t416 => (if t416 > 12 then ((bitemporallaw04_awake.f k).bind fun t417 => (some t417)) else ((steps_Levels.f l0).bind fun t418 => ((bitemporalref04_Levels.f k l0).bind fun t421 => ((bitemporalref01_Same.f k t418 t421).bind fun t424 => (if t424 = true then ((bitemporallaw04_awake.f k).bind fun t425 => (some t425)) else (some false))))))) else (some false))))) else ((bitemporallaw04_awake.f k).bind fun t408 => (some t408)))

/-! ### bitemporalref04_value: function 72 -/
def bitemporalref04_value.f (a0 : Int) (a1 : Int) (a2 : Int) : Option (Int) := if a0 = 1 then (some (wrap64 (a1 + a2))) else (if a0 = 2 then (some (wrap64 (a1 - a2))) else (if a0 = 3 then (some (mn a1 a2)) else (some (mx a1 a2))))

/-! ### bitemporalref04_combined: function 59 -/
mutual
def bitemporalref04_combined.l0 : Nat → Int → List (S48) → List (S48) → List Int → Int → Option ((List (S48)))
 | 0, _, _, _, _, _ => none
 | k + 1, x0, x1, x2, x7, x8 => if x8 < (x1.length : Int) then (if 0 ≤ x8 then ((bitemporalref03_Insert.f k x7 ((rd_T48 x1 x8).f0)).bind fun t427 => (bitemporalref04_combined.l0 k x0 x1 x2 t427 (wrap64 (x8 + 1)))) else (none)) else (bitemporalref04_combined.l1 k x0 x1 x2 x7 0)
def bitemporalref04_combined.l1 : Nat → Int → List (S48) → List (S48) → List Int → Int → Option ((List (S48)))
 | 0, _, _, _, _, _ => none
 | k + 1, x0, x1, x2, x7, x9 => if x9 < (x2.length : Int) then (if 0 ≤ x9 then ((bitemporalref03_Insert.f k x7 ((rd_T48 x2 x9).f0)).bind fun t431 => (bitemporalref04_combined.l1 k x0 x1 x2 t431 (wrap64 (x9 + 1)))) else (none)) else (bitemporalref04_combined.l2 k x0 x1 x2 x7 ([] : List (S48)) 0)
def bitemporalref04_combined.l2 : Nat → Int → List (S48) → List (S48) → List Int → List (S48) → Int → Option ((List (S48)))
 | 0, _, _, _, _, _, _ => none
 | k + 1, x0, x1, x2, x7, x10, x11 => if x11 < (x7.length : Int) then (if 0 ≤ x11 then ((bitemporalref04_At.f k x1 (rd x7 x11)).bind fun t436 => ((bitemporalref04_At.f k x2 (rd x7 x11)).bind fun t438 => ((bitemporalref04_value.f x0 t436 t438).bind fun t439 => ((bitemporalref04_put.f x10 (rd x7 x11) t439).bind fun t440 => (bitemporalref04_combined.l2 k x0 x1 x2 x7 t440 (wrap64 (x11 + 1))))))) else (none)) else (some x10)
end
def bitemporalref04_combined.f (k : Nat) (a0 : Int) (l1 : List (S48)) (l2 : List (S48)) : Option ((List (S48))) := bitemporalref04_combined.l0 k a0 l1 l2 ([] : List Int) 0
def bitemporalref04_combined.T14 : Bool × List (List Nat × List Nat) := (true, [([], []), ([], []), ([], []), ([1, 2], [1, 2]), ([3], [3]), ([], []), ([], []), ([], []), ([], []), ([7, 8], [7, 8]), ([9], [9]), ([6, 10], [6, 10]), ([], []), ([], []), ([], []), ([13, 14], [13, 14]), ([15], [15]), ([12, 16, 11], [12, 16]), ([5, 11, 17, 17], [5, 11, 17]), ([0, 4, 18, 18], [0, 4, 18]), ([19, 19, 0, 1, 2, 3, 4, 5, 6, 7, 8, 9, 10, 11, 12, 13, 14, 15, 16, 17, 18, 19], [0, 19])])
def bitemporalref04_combined.B14 : List Nat := [0, 0, 0, 6, 14, 0, 0, 0, 0, 384, 896, 1984, 0, 0, 0, 24576, 57344, 131008, 262112, 524287, 1048575]

/-! ### bitemporalref04_Max: function 35 -/
def bitemporalref04_Max.f (k : Nat) (l0 : List (S48)) (l1 : List (S48)) : Option ((List (S48))) := (bitemporalref04_combined.f k 4 l0 l1).bind fun t443 => (some t443)

/-! ### bitemporalref04_Clip: function 22 -/
def bitemporalref04_Clip.f (k : Nat) (l0 : List (S48)) : Option ((List (S48))) := (bitemporalref04_Max.f k l0 (([(⟨0, 0⟩ : S48)] : List (S48)))).bind fun t449 => (some t449)

end Go.Proofs.Ytapfdhaohgkjeaa.XP

/- Texts of this claim. -/
import Derived.Test.YtapfdhaohgkjeaaHAll
import Derived.Test.YtapfdhaohgkjeaaXPx3
import Derived.Test.YtapfdhaohgkjeaaXPx6
import Derived.Test.YtapfdhaohgkjeaaXPx7
import Derived.Test.YtapfdhaohgkjeaaXPx8
import Derived.Test.YtapfdhaohgkjeaaXPx9
import Derived.Test.YtapfdhaohgkjeaaXPx12
import Derived.Test.YtapfdhaohgkjeaaXPx16
import Derived.Test.YtapfdhaohgkjeaaXPx22
-- printed by xprint.py of this repo. Not trusted: Lean checks it.
namespace Go.Proofs.Ytapfdhaohgkjeaa.XP
open Go.RowKit Go.Proofs.YtapfdhaohgkjeaaW.PrintWords Go.Proofs.YtapfdhaohgkjeaaW.PrintLast Go.Proofs.YtapfdhaohgkjeaaW.PrintMore
attribute [local go_sem] max2_int min2_int max_two min_two max_three min_three max_four min_four   -- for this text's walks alone
set_option linter.unusedVariables false
set_option linter.unusedSimpArgs false

/-! ### steps_Max_1: function 62 -/
def steps_Max_1.f (a0 : Int) (a1 : Int) : Option (Int) := some (mx a0 a1)

/-! ### steps_combine__62: function 57 -/
def steps_combine__62.l0 : Nat → List (S48) → List (S48) → List (S48) → List Int → Int → Int → Option ((List (S48)))
 | 0, _, _, _, _, _, _ => none
 | k + 1, x0, x1, x7, x12, x13, x14 => if x14 < x13 then (if 0 ≤ x14 then (if x14 < (x12.length : Int) then ((steps_At.f k x0 (rd x12 x14)).bind fun t630 => ((steps_At.f k x1 (rd x12 x14)).bind fun t631 => ((steps_Max_1.f t630 t631).bind fun t632 => ((steps_put.f x7 (rd x12 x14) t632).bind fun t633 => (steps_combine__62.l0 k x0 x1 t633 x12 x13 (wrap64 (x14 + 1))))))) else (none)) else (none)) else (if (x7.length : Int) = 0 then ((steps_Max_1.f 0 0).bind fun t625 => (some (([(⟨0, t625⟩ : S48)] : List (S48))))) else (some x7))
def steps_combine__62.f (k : Nat) (l0 : List (S48)) (l1 : List (S48))  : Option ((List (S48))) := (steps_merge_70__71_71.f k l0 l1).bind fun t622 => (steps_combine__62.l0 k l0 l1 ([] : List (S48)) t622 (t622.length : Int) 0)

/-! ### steps_Max: function 34 -/
def steps_Max.f (k : Nat) (l0 : List (S48)) (l1 : List (S48)) : Option ((List (S48))) := (steps_combine__62.f k l0 l1).bind fun t636 => (some t636)

/-! ### bitemporallaw04_StepsCombines: function 8 -/
def bitemporallaw04_StepsCombines.j0 : Nat → List (S48) → List (S48) → Bool → Option (Bool)
 | 0, _, _, _ => none
 | k + 1, x0, x1, x12 => if x12 = true then ((bitemporallaw04_awake.f k).bind fun t641 => (some t641)) else ((steps_Add.f k x0 x1).bind fun t642 => ((bitemporalref04_Add.f k x0 x1).bind fun t645 => ((bitemporalref04_Same.f k t642 t645).bind fun t648 => (if t648 = true then ((steps_Sub.f k x0 x1).bind fun t649 => ((bitemporalref04_Sub.f k x0 x1).bind fun t652 => ((bitemporalref04_Same.f k t649 t652).bind fun t655 => (if t655 = true then ((steps_Min.f k x0 x1).bind fun t656 => ((bitemporalref04_Min.f k x0 x1).bind fun t659 => ((bitemporalref04_Same.f k t656 t659).bind fun t662 => (if t662 = true then ((steps_Max.f k x0 x1).bind fun t663 => ((bitemporalref04_Max.f k x0 x1).bind fun t666 => ((bitemporalref04_Same.f k t663 t666).bind fun t669 => (if t669 = true then ((steps_Clip.f k x0).bind fun t670 => ((bitemporalref04_Clip.f k x0).bind fun t673 => ((bitemporalref04_Same.f k t670 t673).bind fun t676 => (if t676 = true then ((bitemporallaw04_awake.f k).bind fun t677 => (some t677)) else (some false))))) else (some false))))) else (some false))))) else (some false))))) else (some false)))))
def bitemporallaw04_StepsCombines.f (k : Nat) (l0 : List (S48)) (l1 : List (S48)) : Option (Bool) := (bitemporallaw04_fine.f k l0).bind fun t639 => (if t639 = true then ((bitemporallaw04_fine.f k l1).bind fun t640 => (bitemporallaw04_StepsCombines.j0 k l0 l1 (!t640))) else (bitemporallaw04_StepsCombines.j0 k l0 l1 true))

end Go.Proofs.Ytapfdhaohgkjeaa.XP

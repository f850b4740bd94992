/- Texts of this claim. -/
import Derived.Test.YtapfdhaohgkjeaaHAll
import Derived.Test.YtapfdhaohgkjeaaXPx3
import Derived.Test.YtapfdhaohgkjeaaXPx4
import Derived.Test.YtapfdhaohgkjeaaXPx6
import Derived.Test.YtapfdhaohgkjeaaXPx7
import Derived.Test.YtapfdhaohgkjeaaXPx9
import Derived.Test.YtapfdhaohgkjeaaXPx11
import Derived.Test.YtapfdhaohgkjeaaXPx16
-- printed by xprint.py of this repo. Not trusted: Lean checks it.
namespace Go.Proofs.Ytapfdhaohgkjeaa.XP
open Go.RowKit Go.Proofs.YtapfdhaohgkjeaaW.PrintWords Go.Proofs.YtapfdhaohgkjeaaW.PrintLast Go.Proofs.YtapfdhaohgkjeaaW.PrintMore
attribute [local go_sem] max2_int min2_int max_two min_two max_three min_three max_four min_four   -- for this text's walks alone
set_option linter.unusedVariables false
set_option linter.unusedSimpArgs false

/-! ### steps_Add_1: function 58 -/
def steps_Add_1.f (a0 : Int) (a1 : Int) : Option (Int) := some (wrap64 (a0 + a1))

/-! ### steps_combine__58: function 57 -/
def steps_combine__58.l0 : Nat → List (S48) → List (S48) → List (S48) → List Int → Int → Int → Option ((List (S48)))
 | 0, _, _, _, _, _, _ => none
 | k + 1, x0, x1, x7, x12, x13, x14 => if x14 < x13 then (if 0 ≤ x14 then (if x14 < (x12.length : Int) then ((steps_At.f k x0 (rd x12 x14)).bind fun t557 => ((steps_At.f k x1 (rd x12 x14)).bind fun t558 => ((steps_Add_1.f t557 t558).bind fun t559 => ((steps_put.f x7 (rd x12 x14) t559).bind fun t560 => (steps_combine__58.l0 k x0 x1 t560 x12 x13 (wrap64 (x14 + 1))))))) else (none)) else (none)) else (if (x7.length : Int) = 0 then ((steps_Add_1.f 0 0).bind fun t552 => (some (([(⟨0, t552⟩ : S48)] : List (S48))))) else (some x7))
def steps_combine__58.f (k : Nat) (l0 : List (S48)) (l1 : List (S48))  : Option ((List (S48))) := (steps_merge_70__71_71.f k l0 l1).bind fun t549 => (steps_combine__58.l0 k l0 l1 ([] : List (S48)) t549 (t549.length : Int) 0)

/-! ### steps_Add: function 28 -/
def steps_Add.f (k : Nat) (l0 : List (S48)) (l1 : List (S48)) : Option ((List (S48))) := (steps_combine__58.f k l0 l1).bind fun t563 => (some t563)

/-! ### bitemporallaw04_StepsPieces: function 7 -/
mutual
def bitemporallaw04_StepsPieces.j0 : Nat → List (S40) → List (S40) → Bool → Option (Bool)
 | 0, _, _, _ => none
 | k + 1, x0, x1, x16 => if x16 = true then ((bitemporallaw04_awake.f k).bind fun t566 => (some t566)) else (if ([] : List (S40)).length + x0.length < 5864062014805 then ((some (([] : List (S40)) ++ x0 : List (S40))).bind fun y567 => (if y567.length + x1.length < 5864062014805 then ((some (y567 ++ x1 : List (S40))).bind fun y570 => (bitemporallaw04_StepsPieces.l0 k x0 x1 y570 ([] : List (S40)) (wrap64 ((y570.length : Int) - 1)))) else (none))) else (none))
def bitemporallaw04_StepsPieces.l0 : Nat → List (S40) → List (S40) → List (S40) → List (S40) → Int → Option (Bool)
 | 0, _, _, _, _, _ => none
 | k + 1, x0, x1, x5, x6, x7 => if x7 ≥ 0 then (if 0 ≤ x7 then (if x7 < (x5.length : Int) then (if x6.length < 5864062014805 then (bitemporallaw04_StepsPieces.l0 k x0 x1 x5 (x6 ++ [(⟨(⟨(rd_T40 x5 x7).f0.f0, (rd_T40 x5 x7).f0.f1⟩ : S38), (rd_T40 x5 x7).f1⟩ : S40)]) (wrap64 (x7 - 1))) else (none)) else (none)) else (none)) else ((steps_Of.f k x5).bind fun t577 => ((bitemporalref04_Valid.f k t577).bind fun t580 => (if t580 = true then ((steps_Of.f k x6).bind fun t581 => ((bitemporalref04_Same.f k t577 t581).bind fun t584 => (if t584 = true then ((steps_Of.f k x0).bind fun t585 => ((steps_Of.f k x1).bind fun t588 => ((steps_Add.f k t585 t588).bind fun t591 => ((bitemporalref04_Same.f k t577 t591).bind fun t594 => (if t594 = true then ((bitemporallaw04_awake.f k).bind fun t595 => (some t595)) else (some false)))))) else (some false)))) else (some false))))
end
def bitemporallaw04_StepsPieces.f (k : Nat) (l0 : List (S40)) (l1 : List (S40)) : Option (Bool) := if (l0.length : Int) > 24 then (bitemporallaw04_StepsPieces.j0 k l0 l1 true) else (bitemporallaw04_StepsPieces.j0 k l0 l1 (decide ((l1.length : Int) > 24)))

/-! ### bitemporalref04_Add: function 29 -/
def bitemporalref04_Add.f (k : Nat) (l0 : List (S48)) (l1 : List (S48)) : Option ((List (S48))) := (bitemporalref04_combined.f k 1 l0 l1).bind fun t596 => (some t596)

/-! ### bitemporalref04_Sub: function 31 -/
def bitemporalref04_Sub.f (k : Nat) (l0 : List (S48)) (l1 : List (S48)) : Option ((List (S48))) := (bitemporalref04_combined.f k 2 l0 l1).bind fun t599 => (some t599)

/-! ### steps_Min_1: function 61 -/
def steps_Min_1.f (a0 : Int) (a1 : Int) : Option (Int) := some (mn a0 a1)

/-! ### steps_combine__61: function 57 -/
def steps_combine__61.l0 : Nat → List (S48) → List (S48) → List (S48) → List Int → Int → Int → Option ((List (S48)))
 | 0, _, _, _, _, _, _ => none
 | k + 1, x0, x1, x7, x12, x13, x14 => if x14 < x13 then (if 0 ≤ x14 then (if x14 < (x12.length : Int) then ((steps_At.f k x0 (rd x12 x14)).bind fun t610 => ((steps_At.f k x1 (rd x12 x14)).bind fun t611 => ((steps_Min_1.f t610 t611).bind fun t612 => ((steps_put.f x7 (rd x12 x14) t612).bind fun t613 => (steps_combine__61.l0 k x0 x1 t613 x12 x13 (wrap64 (x14 + 1))))))) else (none)) else (none)) else (if (x7.length : Int) = 0 then ((steps_Min_1.f 0 0).bind fun t605 => (some (([(⟨0, t605⟩ : S48)] : List (S48))))) else (some x7))
def steps_combine__61.f (k : Nat) (l0 : List (S48)) (l1 : List (S48))  : Option ((List (S48))) := (steps_merge_70__71_71.f k l0 l1).bind fun t602 => (steps_combine__61.l0 k l0 l1 ([] : List (S48)) t602 (t602.length : Int) 0)

/-! ### steps_Min: function 32 -/
def steps_Min.f (k : Nat) (l0 : List (S48)) (l1 : List (S48)) : Option ((List (S48))) := (steps_combine__61.f k l0 l1).bind fun t616 => (some t616)

/-! ### bitemporalref04_Min: function 33 -/
def bitemporalref04_Min.f (k : Nat) (l0 : List (S48)) (l1 : List (S48)) : Option ((List (S48))) := (bitemporalref04_combined.f k 3 l0 l1).bind fun t619 => (some t619)

end Go.Proofs.Ytapfdhaohgkjeaa.XP

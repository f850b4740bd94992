/- Texts of this claim. -/
import Derived.Test.YtapfdhaohgkjeaaHAll
import Derived.Test.YtapfdhaohgkjeaaXPx7
import Derived.Test.YtapfdhaohgkjeaaXPx9
import Derived.Test.YtapfdhaohgkjeaaXPx11
-- printed by xprint.py of this repo. Not trusted: Lean checks it.
namespace Go.Proofs.Ytapfdhaohgkjeaa.XP
open Go.RowKit Go.Proofs.YtapfdhaohgkjeaaW.PrintWords Go.Proofs.YtapfdhaohgkjeaaW.PrintLast Go.Proofs.YtapfdhaohgkjeaaW.PrintMore
attribute [local go_sem] max2_int min2_int max_two min_two max_three min_three max_four min_four   -- for this text's walks alone
set_option linter.unusedVariables false
set_option linter.unusedSimpArgs false

/-! ### bitemporalref04_At: function 37 -/
mutual
def bitemporalref04_At.l0 : Nat → List (S48) → Int → Int → Int → Option (Int)
 | 0, _, _, _, _ => none
 | k + 1, x0, x1, x5, x6 => if x6 < (x0.length : Int) then (if x1 ≥ 0 then (bitemporalref04_At.j1 k x0 x1 x5 x6 (decide (x1 < 1099511627776))) else (bitemporalref04_At.j1 k x0 x1 x5 x6 false)) else (bitemporalref04_At.j1 k x0 x1 x5 x6 false)
def bitemporalref04_At.j1 : Nat → List (S48) → Int → Int → Int → Bool → Option (Int)
 | 0, _, _, _, _, _ => none
 | k + 1, x0, x1, x5, x6, x18 => if x18 = true then (if 0 ≤ x6 then (if x6 < (x0.length : Int) then (if ((rd_T48 x0 x6).f0) ≤ x1 then (bitemporalref04_At.l0 k x0 x1 ((rd_T48 x0 x6).f1) (wrap64 (x6 + 1))) else (bitemporalref04_At.l0 k x0 x1 x5 (wrap64 (x6 + 1)))) else (none)) else (none)) else (some x5)
end
def bitemporalref04_At.f (k : Nat) (l0 : List (S48)) (a1 : Int) : Option (Int) := bitemporalref04_At.l0 k l0 a1 0 0

/-! ### bitemporallaw04_StepsTells: function 10 -/
def bitemporallaw04_StepsTells.f (k : Nat) (l0 : List (S48)) (a1 : Int) : Option (Bool) := if (l0.length : Int) > 24 then ((bitemporallaw04_awake.f k).bind fun t331 => (some t331)) else ((bitemporalref04_Valid.f k l0).bind fun t332 => ((steps_Valid.f k l0).bind fun t333 => (if (t333 == t332) = true then (if t332 = true then ((steps_At.f k l0 a1).bind fun t334 => ((bitemporalref04_At.f k l0 a1).bind fun t335 => (if t334 = t335 then ((bitemporallaw04_awake.f k).bind fun t336 => (some t336)) else (some false)))) else ((bitemporallaw04_awake.f k).bind fun t337 => (some t337))) else (some false))))

/-! ### bitemporallaw04_fine: function 15 -/
def bitemporallaw04_fine.f (k : Nat) (l0 : List (S48)) : Option (Bool) := if (l0.length : Int) ≤ 24 then ((bitemporalref04_Valid.f k l0).bind fun t338 => (some t338)) else (some false)
set_option maxHeartbeats 8000000 in
set_option maxRecDepth 100000 in
theorem bitemporallaw04_fine.calls (k : Nat) (A0 : Option Addr) (c0 : Nat) (l0 : List (S48)) (r : Bool) (w : World) (hr0 : Kd.C k48 w A0 l0.length l0) (hc0 : l0.length ≤ c0) (h : bitemporallaw04_fine.f k l0 = some r) :
  Calls Try.prog 15 #[.slice A0 l0.length c0] w fun e w' => e = .returned (.bool r) ∧ Drawn0 w w' := by
 have HR0 := Aside0.mk hr0
 have HC0 := Aside0.mk hc0
 clear hr0 hc0
 have H : (if (l0.length : Int) ≤ 24 then ((bitemporalref04_Valid.f k l0).bind fun t338 => (some t338)) else (some false)) = some r := h
 clear h
 by_cases c2 : (l0.length : Int) ≤ 24
 ·rw [if_pos c2] at H
  have c2b0 : decide ((l0.length : Int) ≤ 24) = true := decide_eq_true c2
  have c2b1 : decide (l0.length ≤ 24) = true := decide_eq_true (by omega)
  clear c2
  replace H := Option.bind_eq_some_iff.mp H
  obtain ⟨t338, A30, H⟩ := H
  replace H : (some t338) = some r := H
  have A3 := Aside0.mk A30
  clear A30
  obtain rfl := Option.some.inj H
  go_enter Try.func15, Try.ntmps15
  go_wp2_with (first | (go_at_call 27; (with_reducible refine (bitemporalref04_Valid.calls k _ _ l0 t338 _ ?side1 ?side2 A3.out).mono ?_); (case side1 => repeat (first | exact HR0.out | (with_reducible refine Kd.C_alloc ?_ _) | (with_reducible refine Kd.C_drewN ?_ _) | (with_reducible refine Kd.C_drew ?_))); (case side2 => exact HC0.out); rintro e w' ⟨rfl, ⟨nd, rfl⟩⟩))
  go_ret
  exact ⟨by first | rfl | (simp; done) | (simp [*]; done), by repeat (first | exact Drawn0.refl _ | apply Drawn0.step)⟩
 ·rw [if_neg c2] at H
  have c2b0 : decide ((l0.length : Int) ≤ 24) = false := decide_eq_false c2
  have c2b1 : decide (l0.length ≤ 24) = false := decide_eq_false (by omega)
  clear c2
  obtain rfl := Option.some.inj H
  go_enter Try.func15, Try.ntmps15
  go_wp2
  go_ret
  exact ⟨by first | rfl | (simp; done) | (simp [*]; done), by repeat (first | exact Drawn0.refl _ | apply Drawn0.step)⟩

end Go.Proofs.Ytapfdhaohgkjeaa.XP

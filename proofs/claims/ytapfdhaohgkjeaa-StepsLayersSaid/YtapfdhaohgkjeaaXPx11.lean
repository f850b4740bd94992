/- Texts of this claim. -/
import Derived.Test.YtapfdhaohgkjeaaHAll
import Derived.Test.YtapfdhaohgkjeaaXPx4
import Derived.Test.YtapfdhaohgkjeaaXPx7
import Derived.Test.YtapfdhaohgkjeaaXPx9
import Derived.Test.YtapfdhaohgkjeaaXPx10
-- printed by xprint.py of this repo. Not trusted: Lean checks it.
namespace Go.Proofs.Ytapfdhaohgkjeaa.XP
open Go.RowKit Go.Proofs.YtapfdhaohgkjeaaW.PrintWords Go.Proofs.YtapfdhaohgkjeaaW.PrintLast Go.Proofs.YtapfdhaohgkjeaaW.PrintMore
attribute [local go_sem] max2_int min2_int max_two min_two max_three min_three max_four min_four   -- for this text's walks alone
set_option linter.unusedVariables false
set_option linter.unusedSimpArgs false

/-! ### bitemporallaw04_StepsOf: function 3 -/
def bitemporallaw04_StepsOf.f (k : Nat) (l0 : List (S40)) : Option (Bool) := if (l0.length : Int) > 24 then ((bitemporallaw04_awake.f k).bind fun t308 => (some t308)) else ((steps_Of.f k l0).bind fun t309 => ((bitemporalref04_Of.f k l0).bind fun t312 => ((bitemporalref04_Same.f k t309 t312).bind fun t315 => (if t315 = true then ((bitemporallaw04_awake.f k).bind fun t316 => (some t316)) else (some false)))))

/-! ### bitemporalref04_Valid: function 27 -/
mutual
def bitemporalref04_Valid.j0 : Nat → List (S48) → Bool → Option (Bool)
 | 0, _, _ => none
 | k + 1, x0, x13 => if x13 = true then (some false) else (bitemporalref04_Valid.l0 k x0 1)
def bitemporalref04_Valid.l0 : Nat → List (S48) → Int → Option (Bool)
 | 0, _, _ => none
 | k + 1, x0, x3 => if x3 < (x0.length : Int) then (if 0 ≤ x3 then (if 0 ≤ (wrap64 (x3 - 1)) then (if (wrap64 (x3 - 1)) < (x0.length : Int) then (if ((rd_T48 x0 x3).f0) ≤ ((rd_T48 x0 (wrap64 (x3 - 1))).f0) then (some false) else (if ((rd_T48 x0 x3).f0) ≥ 1099511627776 then (some false) else (if ((rd_T48 x0 x3).f1) = ((rd_T48 x0 (wrap64 (x3 - 1))).f1) then (some false) else (bitemporalref04_Valid.l0 k x0 (wrap64 (x3 + 1)))))) else (none)) else (none)) else (none)) else (some true)
end
def bitemporalref04_Valid.f (k : Nat) (l0 : List (S48)) : Option (Bool) := if (l0.length : Int) = 0 then (bitemporalref04_Valid.j0 k l0 true) else (if 0 < (l0.length : Int) then (bitemporalref04_Valid.j0 k l0 (((rd_T48 l0 0).f0) != 0)) else (none))
set_option maxHeartbeats 8000000 in
set_option maxRecDepth 100000 in
theorem bitemporalref04_Valid.calls (k : Nat) (A0 : Option Addr) (c0 : Nat) (l0 : List (S48)) (r : Bool) (w : World) (hr0 : Kd.C k48 w A0 l0.length l0) (hc0 : l0.length ≤ c0) (h : bitemporalref04_Valid.f k l0 = some r) :
  Calls Try.prog 27 #[.slice A0 l0.length c0] w fun e w' => e = .returned (.bool r) ∧ Drawn0 w w' := by
 have HR0 := Aside0.mk hr0
 have HC0 := Aside0.mk hc0
 clear hr0 hc0
 have H : (if (l0.length : Int) = 0 then (bitemporalref04_Valid.j0 k l0 true) else (if 0 < (l0.length : Int) then (bitemporalref04_Valid.j0 k l0 (((rd_T48 l0 0).f0) != 0)) else (none))) = some r := h
 clear h
 have HC2 := Aside0.mk H
 clear H
 go_enter Try.func27, Try.ntmps27
 go_upto_region 1 with (fail)
 repeat (go_quiet (fail); go_upto_region 1 with (fail))
 go_cut [13] (fun v13 wc => ∃ (kq : Nat) (x13_1 : Bool), v13 = .bool x13_1 ∧ Aside0 (bitemporalref04_Valid.j0 kq l0 x13_1 = some r) ∧ Aside0 (kq ≤ k) ∧ Drawn0 w wc)
 case first =>
  have H := HC2.out
  clear HC2
  by_cases c3 : (l0.length : Int) = 0
  ·rw [if_pos c3] at H
   have c3b0 : ((l0.length : Int) == 0) = true := beq_iff_eq.mpr c3
   have c3b1 : ((l0.length : Int) != 0) = false := bne_eq_false_iff_eq.mpr c3
   clear c3
   (first | rw [c3b0] | (simp only [i64_w, i32_w]; rw [c3b0]) | skip)
   have H' := Aside0.mk H
   clear H
   go_wp2
   repeat (go_quiet (fail); try go_wp2)
   go_meet
   case rel => exact ⟨_, (true), (by first | rfl | (simp; done) | (simp [*]; done)), H', ⟨by first | omega | exact Nat.le_refl _⟩, by repeat (first | exact Drawn0.refl _ | apply Drawn0.step)⟩
  ·rw [if_neg c3] at H
   have c3b0 : ((l0.length : Int) == 0) = false := beq_eq_false_iff_ne.mpr c3
   have c3b1 : ((l0.length : Int) != 0) = true := bne_iff_ne.mpr c3
   have c3b2 : ¬ (l0 = []) := fun h_ => c3 (by rw [h_]; rfl)
   (first | rw [c3b0] | (simp only [i64_w, i32_w]; rw [c3b0]) | skip)
   by_cases c4 : 0 < (l0.length : Int)
   ·rw [if_pos c4] at H
    have c4b0 : decide (0 < (l0.length : Int)) = true := decide_eq_true c4
    have c4b1 : decide (0 < l0.length) = true := decide_eq_true (by omega)
    clear c4
    have H' := Aside0.mk H
    clear H
    have p317 : 0 ≤ (0 : Int) := (by omega)
    have q317 : 0 < (l0.length : Int) := of_decide_eq_true (by first | (with_reducible assumption) | assumption)
    obtain ⟨ad317, e317, hx317_0, hx317_1⟩ := at_T48 HR0.out 0 p317 q317
    cases e317
    have qi317 : (0 < l0.length) = True := eq_true (by omega)
    (try rw [show ((0 : Int)).toNat = 0 from rfl] at hx317_0)
    (try rw [show 0 * 2 = 0 from rfl] at hx317_0)
    (try rw [Addr.add_zero'] at hx317_0)
    (try rw [show ((0 : Int)).toNat = 0 from rfl] at hx317_1)
    (try rw [show 0 * 2 = 0 from rfl] at hx317_1)
    (try rw [Addr.add_zero'] at hx317_1)
    replace p317 := eq_true p317
    replace q317 := eq_true q317
    go_wp2
    repeat (go_quiet (fail); try go_wp2)
    go_meet
    case rel => exact ⟨_, ((((rd_T48 l0 0).f0) != 0)), (by first | rfl | (simp; done) | (simp [*]; done)), H', ⟨by first | omega | exact Nat.le_refl _⟩, by repeat (first | exact Drawn0.refl _ | apply Drawn0.step)⟩
   ·rw [if_neg c4] at H
    exact absurd H (by simp)
 case rest =>
  clear HC2
  try clear c2
  try clear p2
  try clear c3
  try clear c3b0
  try clear c3b1
  try clear c3b2
  try clear p3
  try clear q3
  try clear hx3
  try clear qi3
  try clear c4
  try clear c4b0
  try clear c4b1
  try clear hx317_0
  try clear hx317_1
  try clear p317
  try clear q317
  obtain ⟨kq, x13_1, rfl, HA, HJ1, ⟨mc1, rfl⟩⟩ := hcut
  cases kq with
  | zero => exact absurd HA.out (by simp [bitemporalref04_Valid.j0])
  | succ kj1 =>
   have H := HA.out
   clear HA
   simp only [bitemporalref04_Valid.j0] at H
   by_cases c5 : x13_1 = true
   ·subst c5
    have H1 : (some false) = some r := by rw [if_pos rfl] at H; exact H
    clear H
    have H := H1
    clear H1
    obtain rfl := Option.some.inj H
    go_wp2
    repeat (go_quiet (fail); try go_wp2)
    go_ret
    exact ⟨by first | rfl | (simp; done) | (simp [*]; done), by repeat (first | exact Drawn0.refl _ | apply Drawn0.step)⟩
   ·replace c5 := Bool.eq_false_iff.mpr c5
    subst c5
    have H1 : (bitemporalref04_Valid.l0 kj1 l0 1) = some r := by rw [if_neg (show ¬ (false = true) by decide)] at H; exact H
    clear H
    have H := H1
    clear H1
    have H' := Aside0.mk H
    clear H
    go_wp2
    repeat (go_quiet (fail); try go_wp2)
    go_loopg [3] kj1 (fun kq v3 w' => ∃ (x3_2 : Int), v3 = .int .i64 x3_2 ∧ Aside0 (bitemporalref04_Valid.l0 kq l0 x3_2 = some r) ∧ Aside0 (kq ≤ kj1) ∧ Drawn0 w w')
    case atStart => exact ⟨(1), (by first | rfl | (simp; done) | (simp [*]; done)), H', ⟨Nat.le_refl _⟩, by repeat (first | exact Drawn0.refl _ | apply Drawn0.step)⟩
    case round =>
     clear H'
     try clear c1
     try clear c2
     try clear p2
     try clear c3
     try clear c3b0
     try clear c3b1
     try clear c3b2
     try clear p3
     try clear q3
     try clear hx3
     try clear qi3
     try clear c4
     try clear c4b0
     try clear c4b1
     try clear c5
     try clear hx317_0
     try clear hx317_1
     try clear p2
     try clear p3
     try clear p317
     try clear q3
     try clear q317
     obtain ⟨x3_2, rfl, HA, HK2, ⟨m2, rfl⟩⟩ := hrel
     cases gk with
     | zero => exact absurd HA.out (by simp [bitemporalref04_Valid.l0])
     | succ k2 =>
      have H := HA.out
      clear HA
      simp only [bitemporalref04_Valid.l0] at H
      by_cases c6 : x3_2 < (l0.length : Int)
      ·rw [if_pos c6] at H
       have c6b0 : decide (x3_2 < (l0.length : Int)) = true := decide_eq_true c6
       clear c6
       by_cases c7 : 0 ≤ x3_2
       ·rw [if_pos c7] at H
        have c7b0 : decide (0 ≤ x3_2) = true := decide_eq_true c7
        clear c7
        obtain ⟨ji8, hji8⟩ : ∃ j_ : Int, (wrap64 (x3_2 - 1)) = j_ := ⟨_, rfl⟩
        replace H : (if 0 ≤ (ji8) then (if (ji8) < (l0.length : Int) then (if ((rd_T48 l0 x3_2).f0) ≤ ((rd_T48 l0 (ji8)).f0) then (some false) else (if ((rd_T48 l0 x3_2).f0) ≥ 1099511627776 then (some false) else (if ((rd_T48 l0 x3_2).f1) = ((rd_T48 l0 (ji8)).f1) then (some false) else (bitemporalref04_Valid.l0 k2 l0 (wrap64 (x3_2 + 1)))))) else (none)) else (none)) = some r := by first | (rw [hji8] at H; exact H) | (simp only [hji8] at H ⊢; exact H)
        have hji8w : (IntKind.i64.wrap (x3_2 - 1)) = ji8 := (i64_w _).trans hji8
        by_cases c9 : 0 ≤ (ji8)
        ·rw [if_pos c9] at H
         have c9b0 : decide (0 ≤ (ji8)) = true := decide_eq_true c9
         clear c9
         by_cases c10 : (ji8) < (l0.length : Int)
         ·rw [if_pos c10] at H
          have c10b0 : decide ((ji8) < (l0.length : Int)) = true := decide_eq_true c10
          clear c10
          by_cases c11 : ((rd_T48 l0 x3_2).f0) ≤ ((rd_T48 l0 (ji8)).f0)
          ·rw [if_pos c11] at H
           have c11b0 : decide (((rd_T48 l0 x3_2).f0) ≤ ((rd_T48 l0 (ji8)).f0)) = true := decide_eq_true c11
           clear c11
           obtain rfl := Option.some.inj H
           have p318 : 0 ≤ (x3_2 : Int) := of_decide_eq_true (by first | (with_reducible assumption) | assumption)
           have q318 : x3_2 < (l0.length : Int) := of_decide_eq_true (by first | (with_reducible assumption) | assumption)
           obtain ⟨ad318, e318, hx318_0, hx318_1⟩ := at_T48 HR0.out x3_2 p318 q318
           cases e318
           replace p318 := eq_true p318
           replace q318 := eq_true q318
           have p319 : 0 ≤ ((ji8) : Int) := of_decide_eq_true (by first | (with_reducible assumption) | assumption)
           have q319 : (ji8) < (l0.length : Int) := of_decide_eq_true (by first | (with_reducible assumption) | assumption)
           obtain ⟨ad319, e319, hx319_0, hx319_1⟩ := at_T48 HR0.out (ji8) p319 q319
           obtain rfl : ad318 = ad319 := (by injection e319)
           replace p319 := eq_true p319
           replace q319 := eq_true q319
           go_wp2
           repeat (go_quiet (fail); try go_wp2)
           go_ret
           exact ⟨by first | rfl | (simp; done) | (simp only [← hji8] <;> (first | rfl | simp)) | (simp [*]; done), by repeat (first | exact Drawn0.refl _ | apply Drawn0.step)⟩
          ·rw [if_neg c11] at H
           have c11b0 : decide (((rd_T48 l0 x3_2).f0) ≤ ((rd_T48 l0 (ji8)).f0)) = false := decide_eq_false c11
           clear c11
           by_cases c12 : ((rd_T48 l0 x3_2).f0) ≥ 1099511627776
           ·rw [if_pos c12] at H
            have c12b0 : decide (1099511627776 ≤ ((rd_T48 l0 x3_2).f0)) = true := decide_eq_true c12
            clear c12
            obtain rfl := Option.some.inj H
            have p318 : 0 ≤ (x3_2 : Int) := of_decide_eq_true (by first | (with_reducible assumption) | assumption)
            have q318 : x3_2 < (l0.length : Int) := of_decide_eq_true (by first | (with_reducible assumption) | assumption)
            obtain ⟨ad318, e318, hx318_0, hx318_1⟩ := at_T48 HR0.out x3_2 p318 q318
            cases e318
            replace p318 := eq_true p318
            replace q318 := eq_true q318
            have p319 : 0 ≤ ((ji8) : Int) := of_decide_eq_true (by first | (with_reducible assumption) | assumption)
            have q319 : (ji8) < (l0.length : Int) := of_decide_eq_true (by first | (with_reducible assumption) | assumption)
            obtain ⟨ad319, e319, hx319_0, hx319_1⟩ := at_T48 HR0.out (ji8) p319 q319
            obtain rfl : ad318 = ad319 := (by injection e319)
            replace p319 := eq_true p319
            replace q319 := eq_true q319
            have p320 : 0 ≤ (x3_2 : Int) := of_decide_eq_true (by first | (with_reducible assumption) | assumption)
            have q320 : x3_2 < (l0.length : Int) := of_decide_eq_true (by first | (with_reducible assumption) | assumption)
            obtain ⟨ad320, e320, hx320_0, hx320_1⟩ := at_T48 HR0.out x3_2 p320 q320
            obtain rfl : ad318 = ad320 := (by injection e320)
            replace p320 := eq_true p320
            replace q320 := eq_true q320
            go_wp2
            repeat (go_quiet (fail); try go_wp2)
            go_ret
            exact ⟨by first | rfl | (simp; done) | (simp only [← hji8] <;> (first | rfl | simp)) | (simp [*]; done), by repeat (first | exact Drawn0.refl _ | apply Drawn0.step)⟩
           ·rw [if_neg c12] at H
            have c12b0 : decide (1099511627776 ≤ ((rd_T48 l0 x3_2).f0)) = false := decide_eq_false c12
            clear c12
            by_cases c13 : ((rd_T48 l0 x3_2).f1) = ((rd_T48 l0 (ji8)).f1)
            ·rw [if_pos c13] at H
             have c13b0 : (((rd_T48 l0 x3_2).f1) == ((rd_T48 l0 (ji8)).f1)) = true := beq_iff_eq.mpr c13
             have c13b1 : (((rd_T48 l0 x3_2).f1) != ((rd_T48 l0 (ji8)).f1)) = false := bne_eq_false_iff_eq.mpr c13
             clear c13
             obtain rfl := Option.some.inj H
             have p318 : 0 ≤ (x3_2 : Int) := of_decide_eq_true (by first | (with_reducible assumption) | assumption)
             have q318 : x3_2 < (l0.length : Int) := of_decide_eq_true (by first | (with_reducible assumption) | assumption)
             obtain ⟨ad318, e318, hx318_0, hx318_1⟩ := at_T48 HR0.out x3_2 p318 q318
             cases e318
             replace p318 := eq_true p318
             replace q318 := eq_true q318
             have p319 : 0 ≤ ((ji8) : Int) := of_decide_eq_true (by first | (with_reducible assumption) | assumption)
             have q319 : (ji8) < (l0.length : Int) := of_decide_eq_true (by first | (with_reducible assumption) | assumption)
             obtain ⟨ad319, e319, hx319_0, hx319_1⟩ := at_T48 HR0.out (ji8) p319 q319
             obtain rfl : ad318 = ad319 := (by injection e319)
             replace p319 := eq_true p319
             replace q319 := eq_true q319
             have p320 : 0 ≤ (x3_2 : Int) := of_decide_eq_true (by first | (with_reducible assumption) | assumption)
             have q320 : x3_2 < (l0.length : Int) := of_decide_eq_true (by first | (with_reducible assumption) | assumption)
             obtain ⟨ad320, e320, hx320_0, hx320_1⟩ := at_T48 HR0.out x3_2 p320 q320
             obtain rfl : ad318 = ad320 := (by injection e320)
             replace p320 := eq_true p320
             replace q320 := eq_true q320
             have p321 : 0 ≤ (x3_2 : Int) := of_decide_eq_true (by first | (with_reducible assumption) | assumption)
             have q321 : x3_2 < (l0.length : Int) := of_decide_eq_true (by first | (with_reducible assumption) | assumption)
             obtain ⟨ad321, e321, hx321_0, hx321_1⟩ := at_T48 HR0.out x3_2 p321 q321
             obtain rfl : ad318 = ad321 := (by injection e321)
             replace p321 := eq_true p321
             replace q321 := eq_true q321
             have p322 : 0 ≤ ((ji8) : Int) := of_decide_eq_true (by first | (with_reducible assumption) | assumption)
             have q322 : (ji8) < (l0.length : Int) := of_decide_eq_true (by first | (with_reducible assumption) | assumption)
             obtain ⟨ad322, e322, hx322_0, hx322_1⟩ := at_T48 HR0.out (ji8) p322 q322
             obtain rfl : ad318 = ad322 := (by injection e322)
             replace p322 := eq_true p322
             replace q322 := eq_true q322
             go_wp2
             repeat (go_quiet (fail); try go_wp2)
             go_ret
             exact ⟨by first | rfl | (simp; done) | (simp only [← hji8] <;> (first | rfl | simp)) | (simp [*]; done), by repeat (first | exact Drawn0.refl _ | apply Drawn0.step)⟩
            ·rw [if_neg c13] at H
             have c13b0 : (((rd_T48 l0 x3_2).f1) == ((rd_T48 l0 (ji8)).f1)) = false := beq_eq_false_iff_ne.mpr c13
             have c13b1 : (((rd_T48 l0 x3_2).f1) != ((rd_T48 l0 (ji8)).f1)) = true := bne_iff_ne.mpr c13
             have H' := Aside0.mk H
             clear H
             have p318 : 0 ≤ (x3_2 : Int) := of_decide_eq_true (by first | (with_reducible assumption) | assumption)
             have q318 : x3_2 < (l0.length : Int) := of_decide_eq_true (by first | (with_reducible assumption) | assumption)
             obtain ⟨ad318, e318, hx318_0, hx318_1⟩ := at_T48 HR0.out x3_2 p318 q318
             cases e318
             replace p318 := eq_true p318
             replace q318 := eq_true q318
             have p319 : 0 ≤ ((ji8) : Int) := of_decide_eq_true (by first | (with_reducible assumption) | assumption)
             have q319 : (ji8) < (l0.length : Int) := of_decide_eq_true (by first | (with_reducible assumption) | assumption)
             obtain ⟨ad319, e319, hx319_0, hx319_1⟩ := at_T48 HR0.out (ji8) p319 q319
             obtain rfl : ad318 = ad319 := (by injection e319)
             replace p319 := eq_true p319
             replace q319 := eq_true q319
             have p320 : 0 ≤ (x3_2 : Int) := of_decide_eq_true (by first | (with_reducible assumption) | assumption)
             have q320 : x3_2 < (l0.length : Int) := of_decide_eq_true (by first | (with_reducible assumption) | assumption)
             obtain ⟨ad320, e320, hx320_0, hx320_1⟩ := at_T48 HR0.out x3_2 p320 q320
             obtain rfl : ad318 = ad320 := (by injection e320)
             replace p320 := eq_true p320
             replace q320 := eq_true q320
             have p321 : 0 ≤ (x3_2 : Int) := of_decide_eq_true (by first | (with_reducible assumption) | assumption)
             have q321 : x3_2 < (l0.length : Int) := of_decide_eq_true (by first | (with_reducible assumption) | assumption)
             obtain ⟨ad321, e321, hx321_0, hx321_1⟩ := at_T48 HR0.out x3_2 p321 q321
             obtain rfl : ad318 = ad321 := (by injection e321)
             replace p321 := eq_true p321
             replace q321 := eq_true q321
             have p322 : 0 ≤ ((ji8) : Int) := of_decide_eq_true (by first | (with_reducible assumption) | assumption)
             have q322 : (ji8) < (l0.length : Int) := of_decide_eq_true (by first | (with_reducible assumption) | assumption)
             obtain ⟨ad322, e322, hx322_0, hx322_1⟩ := at_T48 HR0.out (ji8) p322 q322
             obtain rfl : ad318 = ad322 := (by injection e322)
             replace p322 := eq_true p322
             replace q322 := eq_true q322
             go_wp2
             repeat (go_quiet (fail); try go_wp2)
             go_roundg k2
             case measure => have := HJ1.out; have := HK2.out; omega
             case rel => exact ⟨(wrap64 (x3_2 + 1)), (by first | rfl | (simp; done) | (simp [*]; done)), H', ⟨by have := HJ1.out; have := HK2.out; omega⟩, by repeat (first | exact Drawn0.refl _ | apply Drawn0.step)⟩
         ·rw [if_neg c10] at H
          exact absurd H (by simp)
        ·rw [if_neg c9] at H
         exact absurd H (by simp)
       ·rw [if_neg c7] at H
        exact absurd H (by simp)
      ·rw [if_neg c6] at H
       have c6b0 : decide (x3_2 < (l0.length : Int)) = false := decide_eq_false c6
       clear c6
       obtain rfl := Option.some.inj H
       go_wp2
       repeat (go_quiet (fail); try go_wp2)
       go_ret
       exact ⟨by first | rfl | (simp; done) | (simp [*]; done), by repeat (first | exact Drawn0.refl _ | apply Drawn0.step)⟩

/-! ### steps_Valid: function 39 -/
mutual
def steps_Valid.j0 : Nat → List (S48) → Bool → Option (Bool)
 | 0, _, _ => none
 | k + 1, x0, x13 => if x13 = true then (some false) else (steps_Valid.l0 k x0 1)
def steps_Valid.l0 : Nat → List (S48) → Int → Option (Bool)
 | 0, _, _ => none
 | k + 1, x0, x3 => if x3 < (x0.length : Int) then (if 0 ≤ x3 then (if 0 ≤ (wrap64 (x3 - 1)) then (if (wrap64 (x3 - 1)) < (x0.length : Int) then (if ((rd_T48 x0 x3).f0) ≤ ((rd_T48 x0 (wrap64 (x3 - 1))).f0) then (some false) else (if ((rd_T48 x0 x3).f0) ≥ 1099511627776 then (some false) else (if ((rd_T48 x0 x3).f1) = ((rd_T48 x0 (wrap64 (x3 - 1))).f1) then (some false) else (steps_Valid.l0 k x0 (wrap64 (x3 + 1)))))) else (none)) else (none)) else (none)) else (some true)
end
def steps_Valid.f (k : Nat) (l0 : List (S48)) : Option (Bool) := if (l0.length : Int) = 0 then (steps_Valid.j0 k l0 true) else (if 0 < (l0.length : Int) then (steps_Valid.j0 k l0 (((rd_T48 l0 0).f0) != 0)) else (none))

end Go.Proofs.Ytapfdhaohgkjeaa.XP

/- steps.Of, plainly: the loops that gather the changes, and the whole. -/
import Derived.Test.YtapfdhaohgkjeaaQOf
namespace Go.Proofs.Ytapfdhaohgkjeaa.Q
open Go.RowKit Go.Proofs.YtapfdhaohgkjeaaW.PrintWords Go.Proofs.Ytapfdhaohgkjeaa.XP
set_option linter.unusedVariables false
theorem j2_ends {S : List S48} (hS : Sorted S) (hlen : S.length < 1099511627776) {done rest : List S48} (e : S = done ++ rest) (h0 : ∀ s ∈ done, s.f0 = 0) (hr : ∀ s ∈ rest, 0 < s.f0) :
    ∃ o, Fin S o ∧ Ev (fun k => steps_Of.j2 k S [] (wrap64 (sumF done)) (done.length : Int)) o := by
  have hu : upto S 0 = sumF done := by rw [e]; exact upto_split (fun s hs => by rw [h0 s hs]; exact Int.le_refl _) hr
  have hb := (Built.nil (fun p => wrap64 (upto S p))).put (p := 0) (fun q hq => by cases hq)
  simp only [hu, List.nil_append] at hb
  obtain ⟨o, h1, h2⟩ := l23_ends hS hlen rest.length done rest (putL [] 0 (wrap64 (sumF done))) [0] [] e (Nat.le_refl _) hb rfl (fun p hp => by rw [List.mem_singleton.1 hp]; decide) (fun s hs => by rw [h0 s hs]; simp) (fun s hs p hp => by rw [List.mem_singleton.1 hp]; exact hr s hs) (by have := putL_length [] 0 (wrap64 (sumF done)); simp at this ⊢; omega)
  refine ⟨o, h1, ?_⟩
  exact Ev.step (fun k => by simp only [steps_Of.j2]; rw [put_eq _ _ _ (by simp), Option.bind_some]) h2
theorem l1_ends {S : List S48} (hS : Sorted S) (hlen : S.length < 1099511627776) (hp : ∀ s ∈ S, 0 ≤ s.f0) : ∀ (rest done : List S48), S = done ++ rest → (∀ s ∈ done, s.f0 = 0) →
    ∃ o, Fin S o ∧ Ev (fun k => steps_Of.l1 k S (wrap64 (sumF done)) (done.length : Int)) o := by
  intro rest
  induction rest with
  | nil =>
    intro done e h0
    obtain ⟨o, h1, h2⟩ := j2_ends hS hlen e h0 (fun s hs => by cases hs)
    refine ⟨o, h1, Ev.step (fun k => by simp only [steps_Of.l1]; rw [if_neg (by rw [e]; simp)]) h2⟩
  | cons s rest ih =>
    intro done e h0
    have hg : rd_T48 S (done.length : Int) = s := by rw [rd48_nat, e, getD_mid]
    have hsl : S.length = done.length + (rest.length + 1) := by rw [e]; simp
    by_cases c : s.f0 = 0
    · obtain ⟨o, h1, h2⟩ := ih (done ++ [s]) (by rw [e]; simp) (fun x hx => by
        rcases List.mem_append.1 hx with hx | hx
        · exact h0 x hx
        · rw [List.mem_singleton.1 hx]; exact c)
      refine ⟨o, h1, Ev.step (fun k => by simp only [steps_Of.l1]; rw [if_pos (by omega), if_pos (by omega), hg, if_pos c, wrap_wrap, wrap_nat _ (by omega)]) ?_⟩
      have es : sumF (done ++ [s]) = sumF done + s.f1 := by rw [sumF_append]; simp [sumF]
      rw [es, show (done ++ [s]).length = done.length + 1 by simp] at h2
      exact h2
    · have hr : ∀ x ∈ s :: rest, 0 < x.f0 := by
        have h1 : 0 ≤ s.f0 := hp s (by rw [e]; simp)
        intro x hx
        rcases List.mem_cons.1 hx with rfl | hx
        · omega
        · have := hS; rw [e] at this
          have := (List.pairwise_cons.1 (List.pairwise_append.1 this).2.1).1 x hx
          omega
      obtain ⟨o, h1, h2⟩ := j2_ends hS hlen e h0 hr
      exact ⟨o, h1, Ev.step (fun k => by simp only [steps_Of.l1]; rw [if_pos (by omega), if_pos (by omega), hg, if_neg c]) h2⟩
theorem l0_ends (l : List S40) (hl : l.length < 268435456) : ∀ (rest done : List S40), l = done ++ rest →
    ∃ S o, S.Perm (l.flatMap chg) ∧ Fin S o ∧ Ev (fun k => steps_Of.l0 k (done.flatMap chg) l (l.length : Int) (done.length : Int)) o := by
  intro rest
  induction rest with
  | nil =>
    intro done e
    rw [List.append_nil] at e
    subst e
    have hfl := flat_length l
    obtain ⟨S, hS⟩ := slices_SortFunc_42__43.ends (l.flatMap chg) (fun s hs => chg_range hs) (by omega)
    obtain ⟨p, so⟩ := slices_SortFunc_42__43.spec hS
    obtain ⟨o, h1, h2⟩ := l1_ends so (by rw [p.length_eq]; omega) (fun s hs => (chg_range (p.mem_iff.1 hs)).1) S [] rfl (fun _ h => by cases h)
    refine ⟨S, o, p, h1, Ev.step (fun k => by simp only [steps_Of.l0]; rw [if_neg (by omega), hS, Option.bind_some]) ?_⟩
    rw [show sumF [] = 0 from rfl, wrap_zero] at h2
    exact h2
  | cons c rest ih =>
    intro done e
    have hg : rd_T40 l (done.length : Int) = c := by rw [rd40_nat, e, getD_mid]
    have hsl : l.length = done.length + (rest.length + 1) := by rw [e]; simp
    obtain ⟨S, o, h1, h2, h3⟩ := ih (done ++ [c]) (by rw [e]; simp)
    refine ⟨S, o, h1, h2, ?_⟩
    rw [List.flatMap_append, show (done ++ [c]).length = done.length + 1 by simp] at h3
    have hfd := flat_length done
    by_cases v : okP c.f0
    · refine Ev.step (fun k => by
        simp only [steps_Of.l0]
        rw [if_pos (by omega), if_pos (by omega), if_pos (by omega), hg, valid_eq, Option.bind_some, decide_eq_true v, if_pos rfl, Option.bind_some, if_pos (by simp only [List.length_cons, List.length_nil]; omega), wrap_nat _ (by omega)]) ?_
      have : [c].flatMap chg = [⟨c.f0.f0, c.f1⟩, ⟨c.f0.f1, wrap64 (-c.f1)⟩] := by simp [chg, v]
      rw [this] at h3
      exact h3
    · refine Ev.step (fun k => by
        simp only [steps_Of.l0]
        rw [if_pos (by omega), if_pos (by omega), if_pos (by omega), hg, valid_eq, Option.bind_some, decide_eq_false v, if_neg (by decide), wrap_nat _ (by omega)]) ?_
      have : [c].flatMap chg = [] := by simp [chg, v]
      rw [this, List.append_nil] at h3
      exact h3
/-- The sum of the pieces that hold t. -/
def total : List S40 → Int → Int
  | [], _ => 0
  | c :: r, t => (if okP c.f0 ∧ c.f0.f0 ≤ t ∧ t < c.f0.f1 then c.f1 else 0) + total r t
theorem upto_append (a b : List S48) (p : Int) : upto (a ++ b) p = upto a p + upto b p := by unfold upto; rw [List.filter_append, sumF_append]
theorem wrap_cong {a b : Int} (h : ∃ q : Int, a = b + 18446744073709551616 * q) : wrap64 a = wrap64 b := by obtain ⟨q, rfl⟩ := h; unfold wrap64; omega
theorem wrap_off (a : Int) : ∃ q : Int, wrap64 a = a + 18446744073709551616 * q := ⟨(wrap64 a - a) / 18446744073709551616, by unfold wrap64; omega⟩
theorem upto_total : ∀ (l : List S40) (t : Int), ∃ q : Int, upto (l.flatMap chg) t = total l t + 18446744073709551616 * q
  | [], t => ⟨0, by simp [upto, sumF, total]⟩
  | c :: r, t => by
    obtain ⟨q, hq⟩ := upto_total r t
    rw [List.flatMap_cons, upto_append, hq]
    by_cases v : okP c.f0
    · obtain ⟨p, hp⟩ := wrap_off (-c.f1)
      have e : chg c = [⟨c.f0.f0, c.f1⟩, ⟨c.f0.f1, wrap64 (-c.f1)⟩] := by simp [chg, v]
      have hv := v.2.1
      rw [e]
      by_cases h1 : c.f0.f0 ≤ t
      · by_cases h2 : c.f0.f1 ≤ t
        · refine ⟨p + q, ?_⟩
          have : upto [(⟨c.f0.f0, c.f1⟩ : S48), ⟨c.f0.f1, wrap64 (-c.f1)⟩] t = c.f1 + (wrap64 (-c.f1) + 0) := by simp [upto, h1, h2, sumF]
          rw [this, total, if_neg (by omega), hp]; omega
        · refine ⟨q, ?_⟩
          have : upto [(⟨c.f0.f0, c.f1⟩ : S48), ⟨c.f0.f1, wrap64 (-c.f1)⟩] t = c.f1 + 0 := by simp [upto, h1, h2, sumF]
          rw [this, total, if_pos ⟨v, h1, by omega⟩]; omega
      · refine ⟨q, ?_⟩
        have : upto [(⟨c.f0.f0, c.f1⟩ : S48), ⟨c.f0.f1, wrap64 (-c.f1)⟩] t = 0 := by simp [upto, h1, show ¬ c.f0.f1 ≤ t from by omega, sumF]
        rw [this, total, if_neg (by omega)]; omega
    · refine ⟨q, ?_⟩
      have e : chg c = [] := by simp [chg, v]
      rw [e, total, if_neg (fun h => v h.1)]
      simp [upto, sumF]
theorem Fin.value {S : List S48} {o : List S48} (h : Fin S o) (hp : ∀ s ∈ S, 0 ≤ s.f0) : Valid o ∧ ∀ t, 0 ≤ t → t < FV → vAt o t = wrap64 (upto S t) := by
  obtain ⟨ps, r, hb, h0, hF, hm⟩ := h.built
  refine ⟨hb.valid h0 hF, fun t ht htF => ?_⟩
  refine hb.value (h := fun t => wrap64 (upto S t)) h0 t ht (fun p hpp hpt hmax => ?_)
  have : S.filter (fun s => s.f0 ≤ p) = S.filter (fun s => s.f0 ≤ t) := by
    refine List.filter_congr (fun s hs => ?_)
    rw [decide_eq_decide]
    constructor
    · intro h; omega
    · intro h; exact hmax _ (hm s hs (by omega)) h
  show wrap64 (upto S p) = wrap64 (upto S t)
  unfold upto
  rw [this]
theorem of_ends (l : List S40) (hl : l.length < 268435456) : ∃ o, Ev (fun k => steps_Of.f k l) o ∧ Valid o ∧ ∀ t, 0 ≤ t → t < FV → vAt o t = wrap64 (total l t) := by
  obtain ⟨S, o, p, hF, hE⟩ := l0_ends l hl l [] rfl
  obtain ⟨hv, hval⟩ := hF.value (fun s hs => (chg_range (p.mem_iff.1 hs)).1)
  refine ⟨o, hE, hv, fun t h0 h1 => ?_⟩
  rw [hval t h0 h1, upto_perm p]
  exact wrap_cong (upto_total l t)
end Go.Proofs.Ytapfdhaohgkjeaa.Q

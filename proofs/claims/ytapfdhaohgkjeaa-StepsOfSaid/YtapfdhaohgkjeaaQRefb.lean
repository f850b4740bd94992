/- The reference's Of, plainly. -/
import Derived.Test.YtapfdhaohgkjeaaQRef
namespace Go.Proofs.Ytapfdhaohgkjeaa.Q
open Go.RowKit Go.Proofs.YtapfdhaohgkjeaaW.PrintWords Go.Proofs.Ytapfdhaohgkjeaa.XP
set_option linter.unusedVariables false
theorem total_append : ∀ (a b : List S40) (t : Int), total (a ++ b) t = total a t + total b t
  | [], b, t => by simp [total]
  | c :: r, b, t => by rw [List.cons_append, total, total_append r b t, total]; omega
theorem total_cong : ∀ (l : List S40) (s t : Int), (∀ c ∈ l, okP c.f0 → ((c.f0.f0 ≤ s ∧ s < c.f0.f1) ↔ (c.f0.f0 ≤ t ∧ t < c.f0.f1))) → total l s = total l t
  | [], _, _, _ => rfl
  | c :: r, s, t, h => by
    rw [total, total, total_cong r s t (fun x hx => h x (List.mem_cons_of_mem _ hx))]
    by_cases v : okP c.f0
    · have := h c List.mem_cons_self v
      by_cases d : c.f0.f0 ≤ s ∧ s < c.f0.f1
      · rw [if_pos ⟨v, d⟩, if_pos ⟨v, this.1 d⟩]
      · rw [if_neg (fun e => d e.2), if_neg (fun e => d (this.2 e.2))]
    · rw [if_neg (fun e => v e.1), if_neg (fun e => v e.1)]
structure Pts (l : List S40) (pts : List Int) : Prop where
  up : Up pts
  zero : ∃ r, pts = 0 :: r
  has : ∀ c ∈ l, okP c.f0 → c.f0.f0 ∈ pts ∧ c.f0.f1 ∈ pts
theorem sum_ends (l : List S40) (hl : l.length < 268435456) (pts : List Int) (i : Nat) (hi : i < pts.length) (p : Int) (hp : rd pts (i : Int) = p) (out : List S48) (ho : out.length < 4294967296) : ∀ (rest done : List S40), l = done ++ rest →
    ∀ R, Ev (fun k => bitemporalref04_Of.l1 k l pts (putL out p (wrap64 (total l p))) (wrap64 ((i : Int) + 1))) R → Ev (fun k => bitemporalref04_Of.l2 k l pts out (i : Int) (wrap64 (total done p)) (done.length : Int)) R := by
  intro rest
  induction rest with
  | nil =>
    intro done e R h
    rw [List.append_nil] at e
    subst e
    exact Ev.step (fun k => by simp only [bitemporalref04_Of.l2]; rw [if_neg (by omega), if_pos (by omega), if_pos (by omega), hp, rput_eq _ _ _ (by omega), Option.bind_some]) h
  | cons c rest ih =>
    intro done e R h
    have hsl : l.length = done.length + (rest.length + 1) := by rw [e]; simp
    have hg : rd_T40 l (done.length : Int) = c := by rw [e, rd40_mid]
    have := ih (done ++ [c]) (by rw [e]; simp) R h
    rw [show (done ++ [c]).length = done.length + 1 by simp, total_append] at this
    by_cases v : holds c.f0 p
    · have ec : total [c] p = c.f1 := by rw [total, if_pos v, total]; omega
      rw [ec] at this
      exact Ev.step (fun k => by simp only [bitemporalref04_Of.l2]; rw [if_pos (by omega), if_pos (by omega), if_pos (by omega), if_pos (by omega), hg, hp, rcontains_eq, Option.bind_some, decide_eq_true v, if_pos rfl, wrap_wrap, wrap_nat _ (by omega)]) this
    · have ec : total [c] p = 0 := by rw [total, if_neg v, total]; omega
      rw [ec, Int.add_zero] at this
      exact Ev.step (fun k => by simp only [bitemporalref04_Of.l2]; rw [if_pos (by omega), if_pos (by omega), if_pos (by omega), if_pos (by omega), hg, hp, rcontains_eq, Option.bind_some, decide_eq_false v, if_neg (by decide), wrap_nat _ (by omega)]) this
theorem rof_build (l : List S40) (hl : l.length < 268435456) (pts : List Int) (hup : Up pts) (hlen : pts.length < 4294967296) : ∀ (rest done : List Int) (out : List S48), pts = done ++ rest → Built (fun p => wrap64 (total l p)) done out → (∀ p ∈ done, p < FV) → out.length ≤ done.length →
    ∃ ps o, Built (fun p => wrap64 (total l p)) ps o ∧ (∃ r, ps ++ r = pts) ∧ (∀ p ∈ ps, p < FV ∧ p ∈ pts) ∧ (∀ p ∈ pts, p < FV → p ∈ ps) ∧ Ev (fun k => bitemporalref04_Of.l1 k l pts out (done.length : Int)) o := by
  intro rest
  induction rest with
  | nil =>
    intro done out e hb hF ho
    rw [List.append_nil] at e
    subst e
    refine ⟨pts, out, hb, ⟨[], List.append_nil _⟩, fun p hp => ⟨hF p hp, hp⟩, fun p hp _ => hp, ?_⟩
    refine Ev.step (fun k => by simp only [bitemporalref04_Of.l1]; rw [if_neg (by omega)]) ?_
    exact Ev.step (fun k => by simp only [bitemporalref04_Of.j2]; rw [if_neg (by decide)]) (Ev.now out)
  | cons p rest ih =>
    intro done out e hb hF ho
    have hsl : pts.length = done.length + (rest.length + 1) := by rw [e]; simp
    have hg : rd pts (done.length : Int) = p := by rw [e, rd_mid]
    have hpw := List.pairwise_append.1 (e ▸ hup : Up (done ++ p :: rest))
    by_cases c : p < FV
    · have hb2 := hb.put (p := p) (fun q hq => hpw.2.2 q hq p List.mem_cons_self)
      obtain ⟨ps, o, h1, h2, h3, h4, h5⟩ := ih (done ++ [p]) _ (by rw [e]; simp) hb2 (fun q hq => by
        rcases List.mem_append.1 hq with hq | hq
        · exact hF q hq
        · rw [List.mem_singleton.1 hq]; exact c) (by have := putL_length out p (wrap64 (total l p)); simp; omega)
      refine ⟨ps, o, h1, ?_, h3, h4, ?_⟩
      · exact h2
      · refine Ev.step (fun k => by simp only [bitemporalref04_Of.l1]; rw [if_pos (by omega), if_pos (by omega), hg, decide_eq_true c]) ?_
        refine Ev.step (fun k => by simp only [bitemporalref04_Of.j2]; rw [if_pos trivial]) ?_
        have := sum_ends l hl pts done.length (by omega) p hg out (by omega) l [] rfl o (by
          rw [wrap_nat _ (by omega)]
          rw [show (done ++ [p]).length = done.length + 1 by simp] at h5
          exact h5)
        rw [show total [] p = 0 from rfl, wrap_zero] at this
        exact this
    · refine ⟨done, out, hb, ⟨p :: rest, e.symm⟩, fun q hq => ⟨hF q hq, by rw [e]; simp [hq]⟩, fun q hq hqF => ?_, ?_⟩
      · rw [e] at hq
        rcases List.mem_append.1 hq with hq | hq
        · exact hq
        · exfalso
          rcases List.mem_cons.1 hq with rfl | hq
          · exact c hqF
          · have := (List.pairwise_cons.1 hpw.2.1).1 q hq; omega
      · refine Ev.step (fun k => by simp only [bitemporalref04_Of.l1]; rw [if_pos (by omega), if_pos (by omega), hg, decide_eq_false c]) ?_
        exact Ev.step (fun k => by simp only [bitemporalref04_Of.j2]; rw [if_neg (by decide)]) (Ev.now out)
theorem rof_points (l : List S40) (hl : l.length < 268435456) : ∀ (rest done : List S40) (pts : List Int), l = done ++ rest → Pts done pts → pts.length ≤ 2 * done.length + 1 →
    ∃ pts', Pts l pts' ∧ pts'.length ≤ 2 * l.length + 1 ∧ ∀ R, Ev (fun k => bitemporalref04_Of.l1 k l pts' [] 0) R → Ev (fun k => bitemporalref04_Of.l0 k l pts (done.length : Int)) R := by
  intro rest
  induction rest with
  | nil =>
    intro done pts e hp hn
    rw [List.append_nil] at e
    subst e
    exact ⟨pts, hp, hn, fun R h => Ev.step (fun k => by simp only [bitemporalref04_Of.l0]; rw [if_neg (by omega)]) h⟩
  | cons c rest ih =>
    intro done pts e hp hn
    have hsl : l.length = done.length + (rest.length + 1) := by rw [e]; simp
    have hg : rd_T40 l (done.length : Int) = c := by rw [e, rd40_mid]
    by_cases v : okP c.f0
    · have n1 := ins_length pts c.f0.f0
      have n2 := ins_length (ins pts c.f0.f0) c.f0.f1
      have hp2 : Pts (done ++ [c]) (ins (ins pts c.f0.f0) c.f0.f1) := by
        obtain ⟨r, hr⟩ := hp.zero
        refine ⟨ins_up _ _ (ins_up _ _ hp.up), ?_, fun x hx hv => ?_⟩
        · subst hr
          obtain ⟨r', hr'⟩ := ins_zero (r := r) v.1
          rw [hr']; exact ins_zero (by have := v.1; have := v.2.1; omega)
        · rcases List.mem_append.1 hx with hx | hx
          · have := hp.has x hx hv
            simp only [ins_mem]
            exact ⟨Or.inr (Or.inr this.1), Or.inr (Or.inr this.2)⟩
          · rw [List.mem_singleton.1 hx]
            exact ⟨(ins_mem _ _ _).2 (Or.inr ((ins_mem _ _ _).2 (Or.inl rfl))), (ins_mem _ _ _).2 (Or.inl rfl)⟩
      obtain ⟨pts', h1, h2, h3⟩ := ih (done ++ [c]) _ (by rw [e]; simp) hp2 (by simp; omega)
      refine ⟨pts', h1, h2, fun R h => ?_⟩
      have := h3 R h
      rw [show (done ++ [c]).length = done.length + 1 by simp] at this
      refine Ev.step (f := fun k => (bitemporalref03_Insert.f k pts c.f0.f0).bind fun a => (bitemporalref03_Insert.f k a c.f0.f1).bind fun b => bitemporalref04_Of.l0 k l b ((done.length + 1 : Nat) : Int)) (fun k => by simp only [bitemporalref04_Of.l0]; rw [if_pos (by omega), if_pos (by omega), hg, rvalid_eq, Option.bind_some, decide_eq_true v, if_pos rfl, wrap_nat _ (by omega)]) ?_
      refine Ev.bind (insEv pts _ (by omega)) ?_
      exact Ev.bind (insEv _ _ (by omega)) this
    · have hp2 : Pts (done ++ [c]) pts := ⟨hp.up, hp.zero, fun x hx hv => by
        rcases List.mem_append.1 hx with hx | hx
        · exact hp.has x hx hv
        · rw [List.mem_singleton.1 hx] at hv; exact absurd hv v⟩
      obtain ⟨pts', h1, h2, h3⟩ := ih (done ++ [c]) pts (by rw [e]; simp) hp2 (by simp; omega)
      refine ⟨pts', h1, h2, fun R h => ?_⟩
      have := h3 R h
      rw [show (done ++ [c]).length = done.length + 1 by simp] at this
      exact Ev.step (fun k => by simp only [bitemporalref04_Of.l0]; rw [if_pos (by omega), if_pos (by omega), hg, rvalid_eq, Option.bind_some, decide_eq_false v, if_neg (by decide), wrap_nat _ (by omega)]) this
theorem rof_ends (l : List S40) (hl : l.length < 268435456) : ∃ o, Ev (fun k => bitemporalref04_Of.f k l) o ∧ Valid o ∧ ∀ t, 0 ≤ t → t < FV → vAt o t = wrap64 (total l t) := by
  obtain ⟨pts, hp, hn, hk⟩ := rof_points l hl l [] [0] rfl ⟨by simp, ⟨[], rfl⟩, fun c hc => by cases hc⟩ (by simp)
  obtain ⟨r0, hr0⟩ := hp.zero
  obtain ⟨ps, o, h1, h2, h3, h4, h5⟩ := rof_build l hl pts hp.up (by omega) pts [] [] rfl (Built.nil _) (fun p hp => by cases hp) (by simp)
  have h0 : ∃ r, ps = 0 :: r := by
    have hz : (0 : Int) ∈ ps := h4 0 (by rw [hr0]; simp) (by decide)
    cases ps with
    | nil => cases hz
    | cons q r =>
      obtain ⟨r', hr'⟩ := h2
      rw [hr0] at hr'
      have : q = 0 := by simpa using congrArg List.head? hr'
      exact ⟨r, by rw [this]⟩
  obtain ⟨r, hr⟩ := h0
  refine ⟨o, hk o h5, h1.valid hr (fun p hp => (h3 p hp).1), fun t ht htF => ?_⟩
  refine h1.value (h := fun t => wrap64 (total l t)) hr t ht (fun p hpp hpt hmax => ?_)
  show wrap64 (total l p) = wrap64 (total l t)
  rw [total_cong l p t (fun c hc v => ?_)]
  have := hp.has c hc v
  constructor
  · rintro ⟨a1, a2⟩
    refine ⟨by omega, ?_⟩
    apply Classical.byContradiction; intro h
    have := hmax c.f0.f1 (h4 _ this.2 (by omega)) (by omega); omega
  · rintro ⟨a1, a2⟩
    refine ⟨?_, by omega⟩
    exact hmax c.f0.f0 (h4 _ this.1 (by omega)) a1
end Go.Proofs.Ytapfdhaohgkjeaa.Q

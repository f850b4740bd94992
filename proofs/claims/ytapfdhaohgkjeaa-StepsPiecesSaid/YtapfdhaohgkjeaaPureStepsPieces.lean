/- The law StepsPieces, plainly. -/
import Derived.Test.YtapfdhaohgkjeaaQAll
import Derived.Test.YtapfdhaohgkjeaaHAll
namespace Go.Proofs.Ytapfdhaohgkjeaa.Q
open Go.RowKit Go.Proofs.YtapfdhaohgkjeaaW.PrintWords Go.Proofs.Ytapfdhaohgkjeaa.XP
theorem total_reverse : ∀ (l : List S40) (t : Int), total l.reverse t = total l t
  | [], _ => rfl
  | c :: r, t => by rw [List.reverse_cons, total_append, total_reverse r t]; simp only [total]; omega
theorem pieces_back (a b all : List S40) (hl : all.length < 268435456) : ∀ (rest done : List S40), all = rest ++ done →
    ∀ R, Ev (fun k => bitemporallaw04_StepsPieces.l0 k a b all all.reverse (-1)) R → Ev (fun k => bitemporallaw04_StepsPieces.l0 k a b all done.reverse ((rest.length : Int) - 1)) R := by
  intro rest
  induction h : rest.length generalizing rest with
  | zero =>
    intro done e R hR
    have : rest = [] := List.eq_nil_of_length_eq_zero h
    subst this
    rw [List.nil_append] at e
    subst e
    exact hR
  | succ n ih =>
    intro done e R hR
    rcases List.eq_nil_or_concat rest with rfl | ⟨r, c, rfl⟩
    · simp at h
    · rw [List.concat_eq_append] at *
      have hr : r.length = n := by simpa using h
      have hsl : all.length = n + (done.length + 1) := by rw [e]; simp; omega
      have hg : rd_T40 all (n : Int) = c := by rw [e, ← hr, List.append_assoc, List.singleton_append, rd40_mid]
      have := ih r hr (c :: done) (by rw [e]; simp) R hR
      rw [List.reverse_cons] at this
      refine Ev.step (fun k => ?_) this
      have e1 : ((n + 1 : Nat) : Int) - 1 = (n : Int) := by omega
      rw [e1]
      simp only [bitemporallaw04_StepsPieces.l0]
      rw [if_pos (by omega), if_pos (by omega), if_pos (by omega), if_pos (by rw [List.length_reverse]; omega), hg, wrap_pred' _ (by omega)]
end Go.Proofs.Ytapfdhaohgkjeaa.Q
namespace Go.Proofs.Ytapfdhaohgkjeaa.Pure
open Go.RowKit Go.Proofs.YtapfdhaohgkjeaaW.PrintWords Go.Proofs.Ytapfdhaohgkjeaa.XP Go.Proofs.Ytapfdhaohgkjeaa.Q
set_option linter.unusedVariables false
theorem StepsPieces (a b : List S40) (oka : ∀ x ∈ a, ok40 x) (hla : a.length ≤ 9223372036854775807) (okb : ∀ x ∈ b, ok40 x) (hlb : b.length ≤ 9223372036854775807) : ∃ k, bitemporallaw04_StepsPieces.f k a b = some true := by
  refine Ev.rounds ?_
  by_cases c : a.length ≤ 24 ∧ b.length ≤ 24
  · refine Ev.congr (fun k => by unfold bitemporallaw04_StepsPieces.f; rw [if_neg (by omega), decide_eq_false (by omega)]) ?_
    have hab : (a ++ b).length < 268435456 := by rw [List.length_append]; omega
    refine Ev.step (f := fun k => bitemporallaw04_StepsPieces.l0 k a b (a ++ b) [] (((a ++ b).length : Int) - 1)) (fun k => by
      simp only [bitemporallaw04_StepsPieces.j0]
      rw [if_neg (by decide), if_pos (by simp only [List.length_nil]; omega), Option.bind_some, if_pos (by simp only [List.nil_append]; omega), Option.bind_some, List.nil_append, wrap_pred' _ (by omega)]) ?_
    refine pieces_back a b (a ++ b) hab (a ++ b) [] (by simp) true ?_
    obtain ⟨o, h1, h2, h3⟩ := of_ends (a ++ b) hab
    obtain ⟨o', h1', h2', h3'⟩ := of_ends (a ++ b).reverse (by rw [List.length_reverse]; exact hab)
    obtain ⟨oa, ha1, ha2, ha3⟩ := of_ends a (by omega)
    obtain ⟨ob, hb1, hb2, hb3⟩ := of_ends b (by omega)
    have e : o = o' := h2.uniq h2' (fun t x y => by rw [h3 t x y, h3' t x y, total_reverse])
    refine Ev.step (fun k => by simp only [bitemporallaw04_StepsPieces.l0]; rw [if_neg (by decide)]) ?_
    refine Ev.bind h1 (Ev.bind (validTrue h2) ?_)
    refine Ev.congr (fun k => if_pos rfl) ?_
    refine Ev.bind h1' (Ev.bind (sameTrue (by have := h2.length; omega) e) ?_)
    refine Ev.congr (fun k => if_pos rfl) ?_
    refine Ev.bind ha1 (Ev.bind hb1 ?_)
    obtain ⟨q, hq1, hq2, hq3⟩ := combAddEv oa ob ha2 (Or.inr hb2) (by have := ha2.length; omega) (by have := hb2.length; omega)
    have e2 : o = q := h2.uniq hq2 (fun t x y => by
      rw [h3 t x y, hq3 t x y, ha3 t x y, hb3 t x y, total_append]
      show _ = wrap64 (wrap64 (total a t) + wrap64 (total b t))
      unfold wrap64; omega)
    refine Ev.bind (g := fun k => steps_Add.f k oa ob) (Ev.congr (fun k => by unfold steps_Add.f; rfl) (Ev.bind hq1 (Ev.now q))) ?_
    refine Ev.bind (sameTrue (by have := h2.length; omega) e2) ?_
    exact Ev.congr (fun k => if_pos rfl) awakeEv
  · refine Ev.congr (g := fun k => bitemporallaw04_StepsPieces.f k a b) (f := fun k => bitemporallaw04_StepsPieces.j0 k a b true) (fun k => by
      unfold bitemporallaw04_StepsPieces.f
      by_cases h : (a.length : Int) > 24
      · rw [if_pos h]
      · rw [if_neg h, decide_eq_true (by omega)]) ?_
    exact Ev.step (fun k => by simp only [bitemporallaw04_StepsPieces.j0]; rw [if_pos trivial]) awakeEv
end Go.Proofs.Ytapfdhaohgkjeaa.Pure

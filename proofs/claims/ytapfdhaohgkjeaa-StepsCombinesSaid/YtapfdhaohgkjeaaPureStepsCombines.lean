/- The law StepsCombines, plainly. -/
import Derived.Test.YtapfdhaohgkjeaaQAll
import Derived.Test.YtapfdhaohgkjeaaHAll
namespace Go.Proofs.Ytapfdhaohgkjeaa.Pure
open Go.RowKit Go.Proofs.YtapfdhaohgkjeaaW.PrintWords Go.Proofs.Ytapfdhaohgkjeaa.XP Go.Proofs.Ytapfdhaohgkjeaa.Q
set_option linter.unusedVariables false
theorem StepsCombines (a b : List S48) (oka : ∀ x ∈ a, ok48 x) (hla : a.length ≤ 9223372036854775807) (okb : ∀ x ∈ b, ok48 x) (hlb : b.length ≤ 9223372036854775807) : ∃ k, bitemporallaw04_StepsCombines.f k a b = some true := by
  refine Ev.rounds ?_
  have idle : Ev (fun k => bitemporallaw04_StepsCombines.j0 k a b true) true := Ev.step (fun k => by simp only [bitemporallaw04_StepsCombines.j0]; rw [if_pos trivial]) awakeEv
  obtain ⟨f, h1, h2⟩ := fineEv a
  refine Ev.congr (fun k => by unfold bitemporallaw04_StepsCombines.f; rfl) (Ev.bind h1 ?_)
  cases f with
  | false => exact Ev.congr (fun k => if_neg (by decide)) idle
  | true =>
    obtain ⟨hn, ha⟩ := h2.1 rfl
    refine Ev.congr (fun k => if_pos rfl) ?_
    obtain ⟨g, h3, h4⟩ := fineEv b
    refine Ev.bind h3 ?_
    cases g with
    | false => exact idle
    | true =>
      obtain ⟨hm, hb⟩ := h4.1 rfl
      refine Ev.step (fun k => by simp only [bitemporallaw04_StepsCombines.j0]; rw [if_neg (by decide)]) ?_
      obtain ⟨o1, p1, q1, v1, _⟩ := bothAdd a b ha hb (by omega) (by omega)
      obtain ⟨o2, p2, q2, v2, _⟩ := bothSub a b ha hb (by omega) (by omega)
      obtain ⟨o3, p3, q3, v3, _⟩ := bothMin a b ha hb (by omega) (by omega)
      obtain ⟨o4, p4, q4, v4, _⟩ := bothMax a b ha hb (by omega) (by omega)
      obtain ⟨o5, p5, q5, v5, _⟩ := bothClip a ha (by omega)
      refine Ev.bind p1 (Ev.bind q1 (Ev.bind (sameTrue (by have := v1.length; omega) rfl) (Ev.congr (fun k => if_pos rfl) ?_)))
      refine Ev.bind p2 (Ev.bind q2 (Ev.bind (sameTrue (by have := v2.length; omega) rfl) (Ev.congr (fun k => if_pos rfl) ?_)))
      refine Ev.bind p3 (Ev.bind q3 (Ev.bind (sameTrue (by have := v3.length; omega) rfl) (Ev.congr (fun k => if_pos rfl) ?_)))
      refine Ev.bind p4 (Ev.bind q4 (Ev.bind (sameTrue (by have := v4.length; omega) rfl) (Ev.congr (fun k => if_pos rfl) ?_)))
      refine Ev.bind p5 (Ev.bind q5 (Ev.bind (sameTrue (by have := v5.length; omega) rfl) (Ev.congr (fun k => if_pos rfl) ?_)))
      exact awakeEv
end Go.Proofs.Ytapfdhaohgkjeaa.Pure

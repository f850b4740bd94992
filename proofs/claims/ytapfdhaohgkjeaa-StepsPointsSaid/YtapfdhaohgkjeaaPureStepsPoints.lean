/- The law StepsPoints, plainly. -/
import Derived.Test.YtapfdhaohgkjeaaXPx24
import Derived.Test.YtapfdhaohgkjeaaQAll
import Derived.Test.YtapfdhaohgkjeaaHAll
namespace Go.Proofs.Ytapfdhaohgkjeaa.Pure
open Go.RowKit Go.Proofs.YtapfdhaohgkjeaaW.PrintWords Go.Proofs.YtapfdhaohgkjeaaW.PrintMore Go.Proofs.Ytapfdhaohgkjeaa.XP Go.Proofs.Ytapfdhaohgkjeaa.Q
set_option linter.unusedVariables false
theorem atV_of {o a b : List S48} {g : Int → Int → Int} (h : ∀ t, 0 ≤ t → t < FV → vAt o t = g (vAt a t) (vAt b t)) (h0 : g 0 0 = 0) (t : Int) : atV o t = g (atV a t) (atV b t) := by
  unfold atV
  by_cases c : 0 ≤ t ∧ t < FV
  · rw [if_pos c, if_pos c, if_pos c, h t c.1 c.2]
  · rw [if_neg c, if_neg c, if_neg c, h0]
theorem StepsPoints (a b : List S48) (t : Int) (oka : ∀ x ∈ a, ok48 x) (hla : a.length ≤ 9223372036854775807) (okb : ∀ x ∈ b, ok48 x) (hlb : b.length ≤ 9223372036854775807) (_w : (Lit.int .i64 t).wf = true) : ∃ k, bitemporallaw04_StepsPoints.f k a b t = some true := by
  refine Ev.rounds ?_
  have idle : Ev (fun k => bitemporallaw04_StepsPoints.j0 k a b t true) true := Ev.step (fun k => by simp only [bitemporallaw04_StepsPoints.j0]; rw [if_pos trivial]) awakeEv
  obtain ⟨f, h1, h2⟩ := fineEv a
  refine Ev.congr (fun k => by unfold bitemporallaw04_StepsPoints.f; rfl) (Ev.bind h1 ?_)
  cases f with
  | false => exact Ev.congr (fun k => if_neg (by decide)) idle
  | true =>
    obtain ⟨hn, ha⟩ := h2.1 rfl
    refine Ev.congr (fun k => if_pos rfl) ?_
    obtain ⟨g, h3, h4⟩ := fineEv b
    refine Ev.bind h3 ?_
    cases g with
    | false => exact idle
    | true =>
      obtain ⟨hm, hb⟩ := h4.1 rfl
      refine Ev.step (fun k => by simp only [bitemporallaw04_StepsPoints.j0]; rw [if_neg (by decide)]) ?_
      obtain ⟨o1, p1, q1, v1, w1⟩ := bothAdd a b ha hb (by omega) (by omega)
      obtain ⟨o2, p2, q2, v2, w2⟩ := bothSub a b ha hb (by omega) (by omega)
      obtain ⟨o3, p3, q3, v3, w3⟩ := bothMin a b ha hb (by omega) (by omega)
      obtain ⟨o4, p4, q4, v4, w4⟩ := bothMax a b ha hb (by omega) (by omega)
      obtain ⟨o5, p5, q5, v5, w5⟩ := bothClip a ha (by omega)
      refine Ev.bind (ratEv a t (by omega)) (Ev.bind (ratEv b t (by omega)) ?_)
      refine Ev.bind p1 (Ev.bind p2 (Ev.bind p3 (Ev.bind p4 (Ev.bind p5 ?_))))
      refine Ev.bind (validTrue v1) (Ev.congr (fun k => if_pos rfl) ?_)
      refine Ev.bind (validTrue v2) (Ev.congr (fun k => if_pos rfl) ?_)
      refine Ev.bind (validTrue v3) (Ev.congr (fun k => if_pos rfl) ?_)
      refine Ev.bind (validTrue v4) (Ev.congr (fun k => if_pos rfl) ?_)
      refine Ev.bind (validTrue v5) ?_
      refine Ev.step (fun k => by simp only [bitemporallaw04_StepsPoints.j1]; rw [if_neg (by decide)]) ?_
      refine Ev.bind (atEv o1 t v1.asc (by have := v1.length; omega)) (Ev.congr (fun k => if_pos (atV_of w1 (by show wrap64 (0 + 0) = 0; unfold wrap64; omega) t)) ?_)
      refine Ev.bind (atEv o2 t v2.asc (by have := v2.length; omega)) (Ev.congr (fun k => if_pos (atV_of w2 (by show wrap64 (0 - 0) = 0; unfold wrap64; omega) t)) ?_)
      refine Ev.bind (atEv o3 t v3.asc (by have := v3.length; omega)) (Ev.congr (fun k => if_pos (atV_of w3 (by decide) t)) ?_)
      refine Ev.bind (atEv o4 t v4.asc (by have := v4.length; omega)) (Ev.congr (fun k => if_pos (atV_of w4 (by decide) t)) ?_)
      have h5 : atV o5 t = mx (atV a t) 0 := atV_of (b := a) (g := fun x _ => mx x 0) w5 (by decide) t
      refine Ev.bind (atEv o5 t v5.asc (by have := v5.length; omega)) (Ev.congr (fun k => if_pos h5) ?_)
      exact awakeEv
end Go.Proofs.Ytapfdhaohgkjeaa.Pure

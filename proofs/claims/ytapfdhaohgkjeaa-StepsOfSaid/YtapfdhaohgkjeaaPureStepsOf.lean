/- The law StepsOf, plainly. -/
import Derived.Test.YtapfdhaohgkjeaaQRefb
import Derived.Test.YtapfdhaohgkjeaaQAwake
import Derived.Test.YtapfdhaohgkjeaaHOpens
namespace Go.Proofs.Ytapfdhaohgkjeaa.Q
open Go.RowKit Go.Proofs.YtapfdhaohgkjeaaW.PrintWords Go.Proofs.Ytapfdhaohgkjeaa.XP
theorem awakeEv : Ev (fun k => (bitemporallaw04_awake.f k).bind fun t => some t) true :=
  Ev.bind (Ev.of bitemporallaw04_awake.mono awake_true) (Ev.now true)
end Go.Proofs.Ytapfdhaohgkjeaa.Q
namespace Go.Proofs.Ytapfdhaohgkjeaa.Pure
open Go.RowKit Go.Proofs.YtapfdhaohgkjeaaW.PrintWords Go.Proofs.Ytapfdhaohgkjeaa.XP Go.Proofs.Ytapfdhaohgkjeaa.Q
theorem StepsOf (l : List S40) (ok : ∀ a ∈ l, ok40 a) (hl : l.length ≤ 9223372036854775807) : ∃ k, bitemporallaw04_StepsOf.f k l = some true := by
  refine Ev.rounds ?_
  by_cases c : (l.length : Int) > 24
  · exact Ev.congr (fun k => by unfold bitemporallaw04_StepsOf.f; rw [if_pos c]) awakeEv
  · have hl : l.length < 268435456 := by omega
    obtain ⟨o, h1, h2, h3⟩ := of_ends l hl
    obtain ⟨o', h1', h2', h3'⟩ := rof_ends l hl
    have e : o = o' := h2.uniq h2' (fun t a b => by rw [h3 t a b, h3' t a b])
    subst e
    refine Ev.congr (fun k => by unfold bitemporallaw04_StepsOf.f; rw [if_neg c]) ?_
    refine Ev.bind h1 (Ev.bind h1' ?_)
    refine Ev.bind (sameTrue (by have := h2.length; omega) rfl) ?_
    exact Ev.congr (fun k => if_pos rfl) awakeEv
end Go.Proofs.Ytapfdhaohgkjeaa.Pure

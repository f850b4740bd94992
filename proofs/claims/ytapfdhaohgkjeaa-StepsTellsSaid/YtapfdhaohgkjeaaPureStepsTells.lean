/- The law StepsTells, plainly. -/
import Derived.Test.YtapfdhaohgkjeaaQAll
import Derived.Test.YtapfdhaohgkjeaaHAll
namespace Go.Proofs.Ytapfdhaohgkjeaa.Pure
open Go.RowKit Go.Proofs.YtapfdhaohgkjeaaW.PrintWords Go.Proofs.Ytapfdhaohgkjeaa.XP Go.Proofs.Ytapfdhaohgkjeaa.Q
theorem StepsTells (l : List S48) (t : Int) (ok : ∀ a ∈ l, ok48 a) (hl : l.length ≤ 9223372036854775807) (_w : (Lit.int .i64 t).wf = true) : ∃ k, bitemporallaw04_StepsTells.f k l t = some true := by
  refine Ev.rounds ?_
  by_cases c : (l.length : Int) > 24
  · exact Ev.congr (fun k => by unfold bitemporallaw04_StepsTells.f; rw [if_pos c]) awakeEv
  · have hl : l.length < 4611686018427387904 := by omega
    obtain ⟨b, h1, h2⟩ := validEv l hl
    refine Ev.congr (fun k => by unfold bitemporallaw04_StepsTells.f; rw [if_neg c]) ?_
    refine Ev.bind h1 (Ev.bind (Ev.congr (fun k => svalid_eq k l) h1) ?_)
    refine Ev.congr (fun k => if_pos (by simp)) ?_
    cases b with
    | false => exact Ev.congr (fun k => if_neg (by decide)) awakeEv
    | true =>
      refine Ev.congr (fun k => if_pos rfl) ?_
      refine Ev.bind (atEv l t (h2.1 rfl).asc hl) (Ev.bind (ratEv l t hl) ?_)
      exact Ev.congr (fun k => if_pos rfl) awakeEv
end Go.Proofs.Ytapfdhaohgkjeaa.Pure

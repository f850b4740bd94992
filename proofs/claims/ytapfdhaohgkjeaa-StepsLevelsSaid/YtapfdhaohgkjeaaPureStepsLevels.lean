/- The law StepsLevels, plainly. -/
import Derived.Test.YtapfdhaohgkjeaaQAll
import Derived.Test.YtapfdhaohgkjeaaHAll
namespace Go.Proofs.Ytapfdhaohgkjeaa.Pure
open Go.RowKit Go.Proofs.YtapfdhaohgkjeaaW.PrintWords Go.Proofs.Ytapfdhaohgkjeaa.XP Go.Proofs.Ytapfdhaohgkjeaa.Q
set_option linter.unusedVariables false
theorem StepsLevels (l : List S48) (t : Int) (ok : ∀ a ∈ l, ok48 a) (hl : l.length ≤ 9223372036854775807) (_w : (Lit.int .i64 t).wf = true) : ∃ k, bitemporallaw04_StepsLevels.f k l t = some true := by
  refine Ev.rounds ?_
  obtain ⟨b, h1, h2⟩ := fineEv l
  refine Ev.congr (fun k => by unfold bitemporallaw04_StepsLevels.f; rfl) (Ev.bind h1 ?_)
  cases b with
  | false => exact Ev.congr (fun k => if_neg (by decide)) awakeEv
  | true =>
    obtain ⟨hn, hv⟩ := h2.1 rfl
    refine Ev.congr (fun k => if_pos rfl) ?_
    refine Ev.bind (salEv l t (by omega)) (Ev.bind (ralEv hv t (by omega)) ?_)
    have hal : (al t l).length ≤ 24 := by have := alG_length t l []; simp at this; unfold al; omega
    refine Ev.bind (same38True (by omega) rfl) ?_
    refine Ev.congr (fun k => if_pos rfl) ?_
    obtain ⟨g, h3, h4⟩ := greatEv l (by omega)
    refine Ev.bind h3 ?_
    by_cases c : g > 12
    · exact Ev.congr (fun k => if_pos c) awakeEv
    · refine Ev.congr (fun k => if_neg c) ?_
      obtain ⟨r, h5, h6, h7, h8⟩ := levelsEv hv hn (N := 12) (Nat.le_refl _) (fun s hs => by have := h4 s hs; omega)
      refine Ev.congr (fun k => by rw [h5, Option.bind_some]) ?_
      refine Ev.bind h6 ?_
      have hr : r.length < 4611686018427387904 := by
        rw [h8.length_eq]
        have : ∀ n : Nat, (cat n (fun k => al ((k : Int) + 1) l)).length ≤ n * 24 := by
          intro n
          induction n with
          | zero => simp [cat]
          | succ n ih =>
            have hal : (al ((n : Int) + 1) l).length ≤ 24 := by have := alG_length ((n : Int) + 1) l []; simp at this; unfold al; omega
            rw [cat_succ, List.length_append]; omega
        have := this 12
        omega
      refine Ev.bind (same38True hr rfl) ?_
      exact Ev.congr (fun k => if_pos rfl) awakeEv
end Go.Proofs.Ytapfdhaohgkjeaa.Pure

/- The closure of steps.Levels. -/
import Derived.Test.YtapfdhaohgkjeaaHLs
import Derived.StillTailTactics
namespace Go.Proofs.Ytapfdhaohgkjeaa.XP
open Go.RowKit Go.Proofs.YtapfdhaohgkjeaaW.PrintWords Go.Proofs.YtapfdhaohgkjeaaW.PrintLast Go.Proofs.YtapfdhaohgkjeaaW.PrintMore
set_option linter.unusedVariables false
set_option linter.unusedSimpArgs false
set_option maxHeartbeats 4000000 in
set_option maxRecDepth 100000 in
theorem set_push (B : Nat) (w0 w : World) (gh gs go : Nat) (at_ n h : Int) (vs vo : Value) (stk : List S59) (out : List S38) (S : LS B w0 w gh gs go h vs vo stk out) (hn : h < n) (h0 : 0 ≤ h) (hm : n ≤ 1048576) (hl : stk.length < 1048576) :
    Calls Try.prog 50 #[.int .i64 at_, .int .i64 n, .pointer (some ⟨gh, 0, none⟩), .pointer (some ⟨gs, 0, none⟩), .pointer (some ⟨go, 0, none⟩)] w fun e w' => e = .returned (.tuple #[]) ∧ ∃ vs', LS B w0 w' gh gs go n vs' vo (stk ++ [⟨at_, n - h⟩]) out := by
  have S := Aside0.mk S
  obtain ⟨As, cs, es⟩ := Kd.R_slice S.out.rs
  subst es
  have ch : w.cell? ⟨gh, 0, none⟩ = some (.int .i64 h) := (blk_cell S.out.bh 0).trans rfl
  have cst : w.cell? ⟨gs, 0, none⟩ = some (.slice As stk.length cs) := (blk_cell S.out.bs 0).trans rfl
  have fh : w.frozen? ⟨gh, 0, none⟩ = false := blk_frozen S.out.bh 0
  have fs : w.frozen? ⟨gs, 0, none⟩ = false := blk_frozen S.out.bs 0
  have t1 : decide (h < n) = true := decide_eq_true hn
  go_enter Try.func50, Try.ntmps50
  go_wp2_with (first | (at_builtin; refine Kd.R_append k59 (w0 := w0) B rfl (.tmp 12) (.tmp 18) 57 59 (.agg #[(.int .i64 0), (.int .i64 0)]) 16 rfl Try.underlying57 info59 rfl (by decide) (by omega) (.slice As stk.length cs) stk (⟨at_, n - h⟩ : S59) [.int .i64 at_, .int .i64 (n - h)] (fun _ => True) (fun _ => False) rfl rfl (k59_mkM _ _ _ (⟨at_, n - h⟩ : S59)) (fun _ hk => hk.elim) (fun _ _ => trivial) S.out.rs S.out.below S.out.base (by omega) ?_; intro v1 w1 hR hb hg _; obtain ⟨A1, n1, e1⟩ := Kd.R_slice hR; rw [List.length_append, List.length_singleton] at e1; subst e1; have K1 := Aside0.mk (S.out.kept_s hg); have S2 := Aside0.mk (S.out.pushed hR hb hg); have S3 := Aside0.mk (S2.out.setH n); clear S hR hb hg ch cst fh fs; have c1 : w1.cell? ⟨gs, 0, none⟩ = some (.slice As stk.length cs) := (blk_cell K1.out.2.1 0).trans rfl; have f1 : w1.frozen? ⟨gs, 0, none⟩ = false := blk_frozen K1.out.2.1 0; have c2 : (w1.setCell ⟨gs, 0, none⟩ (.slice A1 (stk.length + 1) n1)).cell? ⟨gh, 0, none⟩ = some (.int .i64 h) := (blk_cell S2.out.bh 0).trans rfl; have f2 : (w1.setCell ⟨gs, 0, none⟩ (.slice A1 (stk.length + 1) n1)).frozen? ⟨gh, 0, none⟩ = false := blk_frozen S2.out.bh 0; have c3 : ((w1.setCell ⟨gs, 0, none⟩ (.slice A1 (stk.length + 1) n1)).setCell ⟨gh, 0, none⟩ (.int .i64 n)).cell? ⟨gh, 0, none⟩ = some (.int .i64 n) := (blk_cell S3.out.bh 0).trans rfl))
  refine wp_loop_rounds 1 ?_
  rw [rounds_succ]
  go_wp2
  go_end0
  exact ⟨rfl, _, S3.out⟩
end Go.Proofs.Ytapfdhaohgkjeaa.XP

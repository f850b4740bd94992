/- What steps.Levels keeps in memory: the three variables that its closure has captured, and the two rows. -/
import Derived.Test.YtapfdhaohgkjeaaXPx0
namespace Go.Proofs.Ytapfdhaohgkjeaa.XP
open Go.RowKit Go.Proofs.YtapfdhaohgkjeaaW.PrintWords Go.Proofs.YtapfdhaohgkjeaaW.PrintLast Go.Proofs.YtapfdhaohgkjeaaW.PrintMore
theorem info59 : (Try.prog.info? 59).map (fun i => (i.zero, i.size, i.bytes)) = some (some (.agg #[(.int .i64 0), (.int .i64 0)]), 2, 16) := by kernel_rfl
structure S59 where
  f0 : Int
  f1 : Int
def z59 : S59 := ⟨(0 : Int), (0 : Int)⟩
def k59 : Kd S59 := Kd.iso (Kd.pair (Kd.int .i64) (Kd.int .i64)) (fun x : S59 => (x.f0, x.f1))
theorem k59_openM {w : World} {base : Nat} {ok : Nat → Prop} {x : S59} {cs : List Value} (h : k59.M w base ok x cs) : cs = [.int .i64 x.f0, .int .i64 x.f1] := by
  obtain ⟨_, _, rfl, rfl, rfl⟩ := h
  exact rfl
theorem k59_mkM (w : World) (base : Nat) (ok : Nat → Prop) (x : S59)  : k59.M w base ok x [.int .i64 x.f0, .int .i64 x.f1] := ⟨[.int .i64 x.f0], [.int .i64 x.f1], rfl, rfl, rfl⟩

structure LS (B : Nat) (w0 w : World) (gh gs go : Nat) (h : Int) (vs vo : Value) (stk : List S59) (out : List S38) : Prop where
  below : Below B w0 w
  base : B ≤ w.heap.size
  lh : B ≤ gh
  ls : B ≤ gs
  lo : B ≤ go
  bh : w.heap[gh]? = some (.cells #[.int .i64 h] 3 (0, 0))
  bs : w.heap[gs]? = some (.cells #[vs] 57 (0, 0))
  bo : w.heap[go]? = some (.cells #[vo] 30 (0, 0))
  rs : Kd.R k59 59 w B (fun _ => True) vs stk
  ro : Kd.R k38 38 w B (fun _ => True) vo out
section
variable {B : Nat} {w0 w : World} {gh gs go : Nat} {h : Int} {vs vo : Value} {stk : List S59} {out : List S38}
theorem size_set (w : World) (p : Addr) (v : Value) : (w.setCell p v).heap.size = w.heap.size := by simp [World.setCell]
theorem LS.drewN (S : LS B w0 w gh gs go h vs vo stk out) (n : Nat) : LS B w0 (w.drewN n) gh gs go h vs vo stk out :=
  ⟨pw_below_drewN S.below n, S.base, S.lh, S.ls, S.lo, S.bh, S.bs, S.bo, Kd.R_drewN S.rs n, Kd.R_drewN S.ro n⟩
theorem LS.drew (S : LS B w0 w gh gs go h vs vo stk out) : LS B w0 w.drew gh gs go h vs vo stk out :=
  ⟨below_drew S.below, S.base, S.lh, S.ls, S.lo, S.bh, S.bs, S.bo, Kd.R_drew S.rs, Kd.R_drew S.ro⟩
theorem LS.alloc (S : LS B w0 w gh gs go h vs vo stk out) (o : Obj) : LS B w0 (w.alloc o) gh gs go h vs vo stk out :=
  ⟨S.below.alloc S.base o, Nat.le_trans S.base (by simp), S.lh, S.ls, S.lo, blk_alloc S.bh o, blk_alloc S.bs o, blk_alloc S.bo o, Kd.R_alloc S.rs o, Kd.R_alloc S.ro o⟩
theorem LS.setH (S : LS B w0 w gh gs go h vs vo stk out) (h' : Int) : LS B w0 (w.setCell ⟨gh, 0, none⟩ (.int .i64 h')) gh gs go h' vs vo stk out :=
  ⟨S.below.setCell S.lh _, by rw [size_set]; exact S.base, S.lh, S.ls, S.lo, blk_set S.bh 0 _, blk_far S.bs (blk_ne S.bs S.bh (by decide)) _, blk_far S.bo (blk_ne S.bo S.bh (by decide)) _, Kd.R_set S.rs S.bh (by decide) 0 _, Kd.R_set S.ro S.bh (by decide) 0 _⟩
/-- The stack's variable takes a part of its own row. -/
theorem LS.cut {A : Option Addr} {n c m : Nat} (S : LS B w0 w gh gs go h (.slice A n c) vo stk out) (hm : m ≤ stk.length) : LS B w0 (w.setCell ⟨gs, 0, none⟩ (.slice A m c)) gh gs go h (.slice A m c) vo (stk.take m) out :=
  ⟨S.below.setCell S.ls _, by rw [size_set]; exact S.base, S.lh, S.ls, S.lo, blk_far S.bh (blk_ne S.bh S.bs (by decide)) _, blk_set S.bs 0 _, blk_far S.bo (blk_ne S.bo S.bs (by decide)) _, Kd.R_set (Kd.R_take S.rs hm) S.bs (by decide) 0 _, Kd.R_set S.ro S.bs (by decide) 0 _⟩
/-- An element of the stack gets another number. -/
theorem LS.setMany {g n c : Nat} (S : LS B w0 w gh gs go h (.slice (some ⟨g, 0, none⟩) n c) vo stk out) (i : Nat) (hi : i < stk.length) (m : Int) :
    LS B w0 (w.setCell ⟨g, i * 2 + 1, none⟩ (.int .i64 m)) gh gs go h (.slice (some ⟨g, 0, none⟩) n c) vo (stk.set i ⟨(stk.getD i z59).f0, m⟩) out := by
  have hn := (Kd.R_reads' S.rs).1
  obtain ⟨ce, hcl, hM, hcc, _⟩ := Kd.R_elem S.rs z59 (i : Int) (by omega) (by omega)
  obtain rfl := k59_openM hM
  have hseg := Kd.R_seg S.rs (i : Int) (by omega) (by omega) (seg := [.int .i64 m]) (j := 1) hcl hcc (show 2 ≤ 2 from by decide) (x' := (⟨(stk.getD i z59).f0, m⟩ : S59)) (k59_mkM _ _ _ _) (fun _ hk => hk)
  have hw : w.setCells g ((i : Int).toNat * k59.sz + 1) [.int .i64 m] = w.setCell ⟨g, i * 2 + 1, none⟩ (.int .i64 m) := rfl
  rw [hw] at hseg
  obtain ⟨cells, hty⟩ := Kd.R_typed S.rs g rfl
  have hgb : B ≤ g := Kd.R_base S.rs g rfl
  exact ⟨S.below.setCell hgb _, by rw [size_set]; exact S.base, S.lh, S.ls, S.lo, blk_far S.bh (blk_ne S.bh hty (by decide)) _, blk_far S.bs (blk_ne S.bs hty (by decide)) _, blk_far S.bo (blk_ne S.bo hty (by decide)) _, hseg.1, Kd.R_set S.ro hty (by decide) _ _⟩
/-- The list has grown, and its variable holds it. -/
theorem LS.outed {w1 : World} {v1 : Value} {out1 : List S38} (S : LS B w0 w gh gs go h vs vo stk out) (hR : Kd.R k38 38 w1 B (fun _ => True) v1 out1) (hb : Below B w0 w1) (hg : w.grownBy w1 vo.ownBlock) :
    LS B w0 (w1.setCell ⟨go, 0, none⟩ v1) gh gs go h vs v1 stk out1 := by
  have ty := Kd.R_typed S.ro
  have ne : ∀ {g t : Nat} {cs : Array Value}, w.heap[g]? = some (.cells cs t (0, 0)) → t ≠ 38 → some g ≠ vo.ownBlock := fun hb ht e => by
    obtain ⟨cells, hc⟩ := ty _ e.symm
    exact blk_ne hb hc ht rfl
  have bo1 := blk_grown S.bo hg (ne S.bo (by decide))
  exact ⟨hb.setCell S.lo _, by rw [size_set]; exact Nat.le_trans S.base hg.size, S.lh, S.ls, S.lo, blk_far (blk_grown S.bh hg (ne S.bh (by decide))) (blk_ne S.bh S.bo (by decide)) _, blk_far (blk_grown S.bs hg (ne S.bs (by decide))) (blk_ne S.bs S.bo (by decide)) _, blk_set bo1 0 _,
    Kd.R_set (Kd.R_over' S.rs ty (by decide) hg) bo1 (by decide) 0 _, Kd.R_set hR bo1 (by decide) 0 _⟩
/-- The stack has grown, and its variable holds it. -/
theorem LS.pushed {w1 : World} {v1 : Value} {stk1 : List S59} (S : LS B w0 w gh gs go h vs vo stk out) (hR : Kd.R k59 59 w1 B (fun _ => True) v1 stk1) (hb : Below B w0 w1) (hg : w.grownBy w1 vs.ownBlock) :
    LS B w0 (w1.setCell ⟨gs, 0, none⟩ v1) gh gs go h v1 vo stk1 out := by
  have ty := Kd.R_typed S.rs
  have ne : ∀ {g t : Nat} {cs : Array Value}, w.heap[g]? = some (.cells cs t (0, 0)) → t ≠ 59 → some g ≠ vs.ownBlock := fun hb ht e => by
    obtain ⟨cells, hc⟩ := ty _ e.symm
    exact blk_ne hb hc ht rfl
  have bs1 := blk_grown S.bs hg (ne S.bs (by decide))
  exact ⟨hb.setCell S.ls _, by rw [size_set]; exact Nat.le_trans S.base hg.size, S.lh, S.ls, S.lo, blk_far (blk_grown S.bh hg (ne S.bh (by decide))) (blk_ne S.bh S.bs (by decide)) _, blk_set bs1 0 _, blk_far (blk_grown S.bo hg (ne S.bo (by decide))) (blk_ne S.bo S.bs (by decide)) _,
    Kd.R_set hR bs1 (by decide) 0 _, Kd.R_set (Kd.R_over' S.ro ty (by decide) hg) bs1 (by decide) 0 _⟩
/-- What an append to the stack leaves alone. -/
theorem LS.kept_s {w1 : World} (S : LS B w0 w gh gs go h vs vo stk out) (hg : w.grownBy w1 vs.ownBlock) :
    w1.heap[gh]? = some (.cells #[.int .i64 h] 3 (0, 0)) ∧ w1.heap[gs]? = some (.cells #[vs] 57 (0, 0)) ∧ w1.heap[go]? = some (.cells #[vo] 30 (0, 0)) := by
  have ty := Kd.R_typed S.rs
  have ne : ∀ {g t : Nat} {cs : Array Value}, w.heap[g]? = some (.cells cs t (0, 0)) → t ≠ 59 → some g ≠ vs.ownBlock := fun hb ht e => by
    obtain ⟨cells, hc⟩ := ty _ e.symm
    exact blk_ne hb hc ht rfl
  exact ⟨blk_grown S.bh hg (ne S.bh (by decide)), blk_grown S.bs hg (ne S.bs (by decide)), blk_grown S.bo hg (ne S.bo (by decide))⟩
/-- What an append to the list leaves alone. -/
theorem LS.kept_o {w1 : World} (S : LS B w0 w gh gs go h vs vo stk out) (hg : w.grownBy w1 vo.ownBlock) :
    w1.heap[gh]? = some (.cells #[.int .i64 h] 3 (0, 0)) ∧ w1.heap[gs]? = some (.cells #[vs] 57 (0, 0)) ∧ w1.heap[go]? = some (.cells #[vo] 30 (0, 0)) := by
  have ty := Kd.R_typed S.ro
  have ne : ∀ {g t : Nat} {cs : Array Value}, w.heap[g]? = some (.cells cs t (0, 0)) → t ≠ 38 → some g ≠ vo.ownBlock := fun hb ht e => by
    obtain ⟨cells, hc⟩ := ty _ e.symm
    exact blk_ne hb hc ht rfl
  exact ⟨blk_grown S.bh hg (ne S.bh (by decide)), blk_grown S.bs hg (ne S.bs (by decide)), blk_grown S.bo hg (ne S.bo (by decide))⟩
end
end Go.Proofs.Ytapfdhaohgkjeaa.XP

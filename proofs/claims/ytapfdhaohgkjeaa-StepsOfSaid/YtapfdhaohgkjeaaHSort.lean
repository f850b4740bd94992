/- slices.SortFunc at steps.Of and at steps.Levels. -/
import Derived.Test.YtapfdhaohgkjeaaXPx0
import Derived.Test.YtapfdhaohgkjeaaHSortKit
import Derived.Test.YtapfdhaohgkjeaaHShelf
import Derived.StillTailTactics
namespace Go.Proofs.Ytapfdhaohgkjeaa.XP
open Go.RowKit Go.Proofs.YtapfdhaohgkjeaaW.PrintWords Go.Proofs.YtapfdhaohgkjeaaW.PrintLast Go.Proofs.YtapfdhaohgkjeaaW.PrintMore
open Go.Sort (SWO grow alloc_eq_grow grow_grow pdq)
set_option linter.unusedVariables false
set_option linter.unusedSimpArgs false

/-! #### by the first number alone -/
abbrev Pt : Type := { s : S48 // 0 ≤ s.f0 ∧ s.f0 ≤ 1099511627776 }
instance : Inhabited Pt := ⟨⟨z48, by decide⟩⟩
def cfPt (x y : Pt) : Int := x.1.f0 - y.1.f0
theorem lt_cfPt (x y : Pt) : Go.Proofs.ltOf cfPt x y = decide (x.1.f0 < y.1.f0) := by
  unfold Go.Proofs.ltOf cfPt
  rw [decide_eq_decide]
  omega
theorem swoPt : SWO (Go.Proofs.ltOf cfPt) where
  irrefl x := by rw [lt_cfPt]; simp
  trans x y z h1 h2 := by rw [lt_cfPt] at *; simp only [decide_eq_true_eq] at *; omega
  ntrans x y z h1 h2 := by rw [lt_cfPt] at *; simp only [decide_eq_false_iff_not] at *; omega
def sortPt (l : List Pt) : List S48 := (pdq (Go.Proofs.ltOf cfPt) l.toArray 0 l.length (Lib.bitLen l.length) true true).toList.map (·.1)
def slices_SortFunc_42__43.f (l : List S48) : Option (List S48) := if h : ∀ s ∈ l, 0 ≤ s.f0 ∧ s.f0 ≤ 1099511627776 then (if l.length < 4611686018427387904 then some (sortPt (l.attach.map fun x => ⟨x.1, h x.1 x.2⟩)) else none) else none
set_option maxHeartbeats 1000000 in
theorem closure43 (x y : Pt) (W : World) : Calls Try.prog 43 #[.agg #[.int .i64 x.1.f0, .int .i64 x.1.f1], .agg #[.int .i64 y.1.f0, .int .i64 y.1.f1]] W fun e w' => e = .returned (.int .i64 (cfPt x y)) ∧ ∃ q os', w' = grow (W.drewN q) os' := by
  obtain ⟨⟨a, b⟩, ha, ha'⟩ := x
  obtain ⟨⟨c, d⟩, hc, hc'⟩ := y
  simp only at ha ha' hc hc'
  show Calls Try.prog 43 #[.agg #[.int .i64 a, .int .i64 b], .agg #[.int .i64 c, .int .i64 d]] W fun e w' => e = .returned (.int .i64 (a - c)) ∧ ∃ q os', w' = grow (W.drewN q) os'
  go_enter Try.func43, Try.ntmps43
  go_wp2
  go_ret
  exact ⟨rfl, 0, _, by rw [alloc_eq_grow, alloc_eq_grow, grow_grow]; rfl⟩
theorem agg48 : ∀ w, (isAgg 48).run Try.prog w = .ok true w := fun _ => by kernel_rfl
theorem size48 : ∀ w, (Go.sizeOf 48).run Try.prog w = .ok k48.sz w := fun _ => by kernel_rfl
theorem slices_SortFunc_42__43.calls (P0_ : Nat → Prop) (u9000_ : Value) (l0 : List S48) (r : List S48) (w0 w : World) (hB : Below w0.heap.size w0 w) (ho0 : Kd.R k48 48 w w0.heap.size P0_ u9000_ l0) (h : slices_SortFunc_42__43.f l0 = some r) :
    Calls Try.prog 42 #[u9000_, .func (.func 43) #[] #[]] w fun e w' => e = .returned (.tuple #[]) ∧ Kd.R k48 48 w' w0.heap.size (fun k_ => (P0_ k_ ∨ w.heap.size ≤ k_)) u9000_ r ∧ Below w0.heap.size w0 w' ∧ Kept w w' (fun k_ => P0_ k_) := by
  unfold slices_SortFunc_42__43.f at h
  by_cases hp : ∀ s ∈ l0, 0 ≤ s.f0 ∧ s.f0 ≤ 1099511627776
  · rw [dif_pos hp] at h
    by_cases hl : l0.length < 4611686018427387904
    · rw [if_pos hl] at h
      obtain rfl := Option.some.inj h
      have hm : (l0.attach.map fun x => (⟨x.1, hp x.1 x.2⟩ : Pt)).map (·.1) = l0 := by
        rw [List.map_map]; exact List.attach_map_subtype_val l0
      have eg : ∀ args w, (callFunc 43 args).run Try.prog w = .ok (.enter 43 args) w := enters_of Try.func43 (by kernel_rfl) rfl
      exact SortKit.sort_flat sortStep k48 48 (fun x : Pt => x.1) (fun s => [.int .i64 s.f0, .int .i64 s.f1]) (fun w b ok x cs => ⟨k48_openM, fun e => by rw [e]; exact k48_mkM w b ok x⟩) agg48 size48 cfPt swoPt 43 eg closure43 P0_ u9000_ _ w0 w (by simpa using hl) hB (by rw [hm]; exact ho0)
    · rw [if_neg hl] at h; cases h
  · rw [dif_neg hp] at h; cases h
theorem slices_SortFunc_42__43.spec {l r : List S48} (h : slices_SortFunc_42__43.f l = some r) : r.Perm l ∧ r.Pairwise (fun a b => a.f0 ≤ b.f0) := by
  unfold slices_SortFunc_42__43.f at h
  by_cases hp : ∀ s ∈ l, 0 ≤ s.f0 ∧ s.f0 ≤ 1099511627776
  · rw [dif_pos hp] at h
    by_cases hl : l.length < 4611686018427387904
    · rw [if_pos hl] at h
      obtain rfl := Option.some.inj h
      have hm : (l.attach.map fun x => (⟨x.1, hp x.1 x.2⟩ : Pt)).map (·.1) = l := by
        rw [List.map_map]; exact List.attach_map_subtype_val l
      generalize (l.attach.map fun x => (⟨x.1, hp x.1 x.2⟩ : Pt)) = m at hm
      subst hm
      have hs := Go.Sort.pdq_sorts (Go.Proofs.ltOf cfPt) swoPt m.toArray 0 m.length (Lib.bitLen m.length) true true (Nat.zero_le _) (by simp) (Or.inl rfl)
      unfold sortPt
      generalize pdq (Go.Proofs.ltOf cfPt) m.toArray 0 m.length (Lib.bitLen m.length) true true = D at hs
      obtain ⟨⟨hsz, _, hperm⟩, hsort⟩ := hs
      have hsz' : D.size = m.length := by simpa using hsz
      have e1 : D.extract 0 m.length = D := by rw [← hsz']; exact Array.extract_size
      have e2 : m.toArray.extract 0 m.length = m.toArray := by simp
      rw [e1, e2] at hperm
      refine ⟨(by simpa using hperm.map (·.1)), ?_⟩
      rw [List.pairwise_map, List.pairwise_iff_getElem]
      intro i j hi hj hij
      have hj' : j < D.size := by simpa using hj
      have hi' : i < D.size := by simpa using hi
      have := hsort i j (Nat.zero_le _) hij (by omega)
      rw [getElem!_pos D j hj', getElem!_pos D i hi'] at this
      rw [lt_cfPt, decide_eq_false_iff_not] at this
      simp only [Array.getElem_toList]
      omega
    · rw [if_neg hl] at h; cases h
  · rw [dif_neg hp] at h; cases h
theorem slices_SortFunc_42__43.ends (l : List S48) (h : ∀ s ∈ l, 0 ≤ s.f0 ∧ s.f0 ≤ 1099511627776) (hl : l.length < 4611686018427387904) : ∃ r, slices_SortFunc_42__43.f l = some r := by
  unfold slices_SortFunc_42__43.f; rw [dif_pos h, if_pos hl]; exact ⟨_, rfl⟩

/-! #### periods, by both numbers -/
def cmpI (x y : Int) : Int := if x < y then -1 else if y < x then 1 else 0
def orI (x y : Int) : Int := if x = 0 then y else x
instance : Inhabited S38 := ⟨z38⟩
def cfPer (x y : S38) : Int := orI (cmpI x.f0 y.f0) (cmpI x.f1 y.f1)
theorem lt_cfPer (x y : S38) : Go.Proofs.ltOf cfPer x y = decide (x.f0 < y.f0 ∨ x.f0 = y.f0 ∧ x.f1 < y.f1) := by
  unfold Go.Proofs.ltOf cfPer orI cmpI
  rw [decide_eq_decide]
  split <;> split <;> (try split) <;> (try split) <;> (try split) <;> constructor <;> intro h <;> first | omega | (simp_all; try omega)
theorem swoPer : SWO (Go.Proofs.ltOf cfPer) where
  irrefl x := by rw [lt_cfPer]; simp
  trans x y z h1 h2 := by rw [lt_cfPer] at *; simp at *; omega
  ntrans x y z h1 h2 := by rw [lt_cfPer] at *; simp at *; omega
set_option maxHeartbeats 1000000 in
theorem compare54 (x y : Int) (w : World) : Calls Try.prog 54 #[.int .i64 x, .int .i64 y] w fun e w' => e = .returned (.int .i64 (cmpI x y)) ∧ w = w' := by
  rcases Int.lt_trichotomy x y with h | h | h
  · have e : cmpI x y = -1 := if_pos h
    rw [e]
    clear e
    have t : decide (x < y) = true := decide_eq_true h
    go_enter Try.func54, Try.ntmps54
    go_wp2
    go_ret
    exact ⟨rfl, rfl⟩
  · subst h
    have e : cmpI x x = 0 := by unfold cmpI; rw [if_neg (by omega), if_neg (by omega)]
    rw [e]
    clear e
    have t : decide (x < x) = false := decide_eq_false (by omega)
    go_enter Try.func54, Try.ntmps54
    go_wp2
    go_ret
    exact ⟨rfl, rfl⟩
  · have e : cmpI x y = 1 := by unfold cmpI; rw [if_neg (by omega), if_pos h]
    rw [e]
    clear e
    have t : decide (x < y) = false := decide_eq_false (by omega)
    have t : decide (y < x) = true := decide_eq_true h
    go_enter Try.func54, Try.ntmps54
    go_wp2
    go_ret
    exact ⟨rfl, rfl⟩
set_option maxHeartbeats 1000000 in
theorem or53 (x y : Int) (b : Nat) (w : World) (h0 : w.cell? ⟨b, 0, none⟩ = some (.int .i64 x)) (h1 : w.cell? ⟨b, 1, none⟩ = some (.int .i64 y)) : Calls Try.prog 53 #[.slice (some ⟨b, 0, none⟩) 2 2] w fun e w' => e = .returned (.int .i64 (orI x y)) ∧ w = w' := by
  by_cases hx : x = 0
  · subst hx
    rw [show orI 0 y = y from rfl]
    by_cases hy : y = 0
    · subst hy
      go_enter Try.func53, Try.ntmps53
      go_wp2
      refine wp_loop_rounds 3 ?_
      rw [rounds_succ]
      go_wp2
      rw [rounds_succ]
      go_wp2
      rw [rounds_succ]
      go_wp2
      go_ret
      exact ⟨rfl, rfl⟩
    · have t : (y == 0) = false := beq_eq_false_iff_ne.mpr hy
      have t : (y != 0) = true := bne_iff_ne.mpr hy
      go_enter Try.func53, Try.ntmps53
      go_wp2
      refine wp_loop_rounds 2 ?_
      rw [rounds_succ]
      go_wp2
      rw [rounds_succ]
      go_wp2
      go_ret
      exact ⟨rfl, rfl⟩
  · rw [show orI x y = x from if_neg hx]
    have t : (x == 0) = false := beq_eq_false_iff_ne.mpr hx
    have t : (x != 0) = true := bne_iff_ne.mpr hx
    go_enter Try.func53, Try.ntmps53
    go_wp2
    refine wp_loop_rounds 1 ?_
    rw [rounds_succ]
    go_wp2
    go_ret
    exact ⟨rfl, rfl⟩
set_option maxHeartbeats 1000000 in
set_option maxRecDepth 100000 in
theorem closure52 (x y : S38) (W : World) : Calls Try.prog 52 #[.agg #[.int .i64 x.f0, .int .i64 x.f1], .agg #[.int .i64 y.f0, .int .i64 y.f1]] W fun e w' => e = .returned (.int .i64 (cfPer x y)) ∧ ∃ q os', w' = grow (W.drewN q) os' := by
  obtain ⟨a, b⟩ := x
  obtain ⟨c, d⟩ := y
  show Calls Try.prog 52 #[.agg #[.int .i64 a, .int .i64 b], .agg #[.int .i64 c, .int .i64 d]] W fun e w' => e = .returned (.int .i64 (orI (cmpI a c) (cmpI b d))) ∧ ∃ q os', w' = grow (W.drewN q) os'
  have C1 := Aside0.mk (compare54 a c)
  have C2 := Aside0.mk (compare54 b d)
  generalize cmpI a c = p at C1 ⊢
  generalize cmpI b d = q at C2 ⊢
  go_enter Try.func52, Try.ntmps52
  go_wp2_with fail
  obtain ⟨W1, hW1⟩ : ∃ W1, W1 = ((W.alloc (.cells #[.int .i64 a, .int .i64 b] 38)).alloc (.cells #[.int .i64 c, .int .i64 d] 38)).drew := ⟨_, rfl⟩
  have m1 : W1.heap[W.heap.size]? = some (.cells #[.int .i64 a, .int .i64 b] 38 (0, 0)) := by rw [hW1]; exact blk_drew (blk_alloc (blk_new W _) _)
  have m2 : W1.heap[W.heap.size + 1]? = some (.cells #[.int .i64 c, .int .i64 d] 38 (0, 0)) := by
    rw [hW1]; have := blk_new (W.alloc (.cells #[.int .i64 a, .int .i64 b] 38)) (.cells #[.int .i64 c, .int .i64 d] 38)
    rw [World.size_alloc] at this; exact this
  have g1 : W1.cell? ⟨W.heap.size, 0, none⟩ = some (.int .i64 a) := (blk_cell m1 0).trans rfl
  have g2 : W1.cell? ⟨W.heap.size, 1, none⟩ = some (.int .i64 b) := (blk_cell m1 1).trans rfl
  have g3 : W1.cell? ⟨W.heap.size + 1, 0, none⟩ = some (.int .i64 c) := (blk_cell m2 0).trans rfl
  have g4 : W1.cell? ⟨W.heap.size + 1, 1, none⟩ = some (.int .i64 d) := (blk_cell m2 1).trans rfl
  clear m1 m2
  refine wp_region_still_tail 10 (by kernel_rfl) (by kernel_rfl) ?_
  change wpStill _ _ ((W.alloc (.cells #[.int .i64 a, .int .i64 b] 38)).alloc (.cells #[.int .i64 c, .int .i64 d] 38)).drew _ _ _
  rw [← hW1]
  have HW1 := Aside0.mk hW1
  clear hW1
  simp only [List.take_succ_cons, List.take_zero, List.drop_succ_cons, List.drop_zero]
  still_step
  still_step
  still_step
  still_step
  still_call ((C1.out _).mono fun _ _ ⟨h1, h2⟩ => ⟨h1, h2.symm⟩)
  still_step
  still_step
  still_step
  still_step
  still_call ((C2.out _).mono fun _ _ ⟨h1, h2⟩ => ⟨h1, h2.symm⟩)
  refine wpStill_nil ?_
  change wpList _ _ _ _ _ ((W.alloc (.cells #[.int .i64 a, .int .i64 b] 38)).alloc (.cells #[.int .i64 c, .int .i64 d] 38)).drew
  rw [← HW1.out]
  clear C1 C2 g1 g2 g3 g4
  go_wp2_with (go_at_call 53; refine (or53 p q W1.heap.size _ ((blk_cell (blk_new W1 _) 0).trans rfl) ((blk_cell (blk_new W1 _) 1).trans rfl)).mono ?_; rintro e w' ⟨rfl, rfl⟩)
  go_ret
  exact ⟨rfl, 1, _, by rw [HW1.out, alloc_eq_grow, alloc_eq_grow, alloc_eq_grow, grow_grow, Go.Sort.drew_grow, grow_grow]; rfl⟩

def slices_SortFunc_51__52.f (l : List S38) : Option (List S38) := if l.length < 4611686018427387904 then some ((pdq (Go.Proofs.ltOf cfPer) l.toArray 0 l.length (Lib.bitLen l.length) true true).toList.map id) else none
theorem agg38 : ∀ w, (isAgg 38).run Try.prog w = .ok true w := fun _ => by kernel_rfl
theorem size38 : ∀ w, (Go.sizeOf 38).run Try.prog w = .ok k38.sz w := fun _ => by kernel_rfl
theorem slices_SortFunc_51__52.calls (P0_ : Nat → Prop) (u9000_ : Value) (l0 : List S38) (r : List S38) (w0 w : World) (hB : Below w0.heap.size w0 w) (ho0 : Kd.R k38 38 w w0.heap.size P0_ u9000_ l0) (h : slices_SortFunc_51__52.f l0 = some r) :
    Calls Try.prog 51 #[u9000_, .func (.func 52) #[] #[]] w fun e w' => e = .returned (.tuple #[]) ∧ Kd.R k38 38 w' w0.heap.size (fun k_ => (P0_ k_ ∨ w.heap.size ≤ k_)) u9000_ r ∧ Below w0.heap.size w0 w' ∧ Kept w w' (fun k_ => P0_ k_) := by
  unfold slices_SortFunc_51__52.f at h
  by_cases hl : l0.length < 4611686018427387904
  · rw [if_pos hl] at h
    obtain rfl := Option.some.inj h
    have eg : ∀ args w, (callFunc 52 args).run Try.prog w = .ok (.enter 52 args) w := enters_of Try.func52 (by kernel_rfl) rfl
    exact SortKit.sort_flat sortPeriod k38 38 id (fun s => [.int .i64 s.f0, .int .i64 s.f1]) (fun w b ok x cs => ⟨k38_openM, fun e => by rw [e]; exact k38_mkM w b ok x⟩) agg38 size38 cfPer swoPer 52 eg closure52 P0_ u9000_ _ w0 w hl hB (by rw [List.map_id]; exact ho0)
  · rw [if_neg hl] at h; cases h
def perLt (x y : S38) : Prop := x.f0 < y.f0 ∨ x.f0 = y.f0 ∧ x.f1 < y.f1
theorem slices_SortFunc_51__52.spec {l r : List S38} (h : slices_SortFunc_51__52.f l = some r) : r.Perm l ∧ r.Pairwise (fun a b => ¬ perLt b a) := by
  unfold slices_SortFunc_51__52.f at h
  by_cases hl : l.length < 4611686018427387904
  · rw [if_pos hl] at h
    obtain rfl := Option.some.inj h
    rw [List.map_id]
    have hs := Go.Sort.pdq_sorts (Go.Proofs.ltOf cfPer) swoPer l.toArray 0 l.length (Lib.bitLen l.length) true true (Nat.zero_le _) (by simp) (Or.inl rfl)
    generalize pdq (Go.Proofs.ltOf cfPer) l.toArray 0 l.length (Lib.bitLen l.length) true true = D at hs
    obtain ⟨⟨hsz, _, hperm⟩, hsort⟩ := hs
    have hsz' : D.size = l.length := by simpa using hsz
    have e1 : D.extract 0 l.length = D := by rw [← hsz']; exact Array.extract_size
    have e2 : l.toArray.extract 0 l.length = l.toArray := by simp
    rw [e1, e2] at hperm
    refine ⟨by simpa using hperm, ?_⟩
    rw [List.pairwise_iff_getElem]
    intro i j hi hj hij
    have hj' : j < D.size := by simpa using hj
    have hi' : i < D.size := by simpa using hi
    have := hsort i j (Nat.zero_le _) hij (by omega)
    rw [getElem!_pos D j hj', getElem!_pos D i hi'] at this
    rw [lt_cfPer, decide_eq_false_iff_not] at this
    simpa only [Array.getElem_toList, perLt] using this
  · rw [if_neg hl] at h; cases h
theorem slices_SortFunc_51__52.ends (l : List S38) (hl : l.length < 4611686018427387904) : ∃ r, slices_SortFunc_51__52.f l = some r := by
  unfold slices_SortFunc_51__52.f; rw [if_pos hl]; exact ⟨_, rfl⟩
end Go.Proofs.Ytapfdhaohgkjeaa.XP

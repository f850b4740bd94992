/- The closure of steps.Levels, where it takes levels off. -/
import Derived.Test.YtapfdhaohgkjeaaHLs
import Derived.StillTailTactics
namespace Go.Proofs.Ytapfdhaohgkjeaa.XP
open Go.RowKit Go.Proofs.YtapfdhaohgkjeaaW.PrintWords Go.Proofs.YtapfdhaohgkjeaaW.PrintLast Go.Proofs.YtapfdhaohgkjeaaW.PrintMore
attribute [local go_sem] max2_int min2_int max_two min_two
set_option linter.unusedVariables false
set_option linter.unusedSimpArgs false
def popR (at_ n : Int) : Int → List S59 → List S38 → Int × List S59 × List S38
  | h, [], out => (h, [], out)
  | h, s :: r, out =>
    if n < h then
      if s.f1 ≤ h - n then popR at_ n (h - s.f1) r (out ++ List.replicate s.f1.toNat ⟨s.f0, at_⟩)
      else (n, ⟨s.f0, s.f1 - (h - n)⟩ :: r, out ++ List.replicate (h - n).toNat ⟨s.f0, at_⟩)
    else (h, s :: r, out)
def sumM : List S59 → Int
  | [] => 0
  | s :: r => s.f1 + sumM r
theorem sumM_nonneg : ∀ rs : List S59, (∀ s ∈ rs, 1 ≤ s.f1) → 0 ≤ sumM rs
  | [], _ => by simp [sumM]
  | s :: r, h => by
    have := sumM_nonneg r (fun x hx => h x (List.mem_cons_of_mem _ hx))
    have := h s List.mem_cons_self
    simp only [sumM]; omega
theorem popR_done (at_ n h : Int) (rs : List S59) (out : List S38) (hn : ¬ n < h) : popR at_ n h rs out = (h, rs, out) := by
  cases rs <;> simp [popR, hn]
theorem sumM_len : ∀ rs : List S59, (∀ s ∈ rs, 1 ≤ s.f1) → (rs.length : Int) ≤ sumM rs
  | [], _ => by simp [sumM]
  | s :: r, h => by
    have := sumM_len r (fun x hx => h x (List.mem_cons_of_mem _ hx))
    have := h s List.mem_cons_self
    simp only [sumM, List.length_cons]; omega
theorem rev_set (s x : S59) (r : List S59) : (s :: r).reverse.set r.length x = (x :: r).reverse := by
  rw [List.reverse_cons, List.reverse_cons]
  have : r.length = r.reverse.length := by simp
  rw [this, List.set_append_right _ _ (Nat.le_refl _)]
  simp
theorem rev_take (s : S59) (r : List S59) : (s :: r).reverse.take r.length = r.reverse := by
  rw [List.reverse_cons]
  have : r.length = r.reverse.length := by simp
  rw [this, List.take_left]
structure PopInv (at_ n h : Int) (rs : List S59) (out : List S38) (fin : Int × List S59 × List S38) (K : Nat) : Prop where
  sum : sumM rs = h
  pos : ∀ s ∈ rs, 1 ≤ s.f1
  hi : h ≤ 1048576
  room : out.length + h.toNat ≤ 4398046511104
  fin_ : popR at_ n h rs out = fin
  k : K = rs.length + if n < h then 1 else 0
theorem PopInv.popped {at_ n h : Int} {s : S59} {r : List S59} {out : List S38} {fin : Int × List S59 × List S38} {K : Nat} (I : PopInv at_ n h (s :: r) out fin K) (hn : n < h) (hs : s.f1 ≤ h - n) :
    PopInv at_ n (h - s.f1) r (out ++ List.replicate s.f1.toNat ⟨s.f0, at_⟩) fin (r.length + if n < h - s.f1 then 1 else 0) ∧ (r.length + if n < h - s.f1 then 1 else 0) < K := by
  have b1 := I.pos s List.mem_cons_self
  have hsum := I.sum
  have hk := I.k
  have hr := I.room
  have hf := I.fin_
  simp only [sumM] at hsum
  rw [if_pos hn] at hk
  rw [popR, if_pos hn, if_pos hs] at hf
  have := sumM_nonneg r (fun x hx => I.pos x (List.mem_cons_of_mem _ hx))
  refine ⟨⟨by omega, fun x hx => I.pos x (List.mem_cons_of_mem _ hx), by have := I.hi; omega, ?_, hf, rfl⟩, ?_⟩
  · rw [List.length_append, List.length_replicate]; omega
  · rw [hk, List.length_cons]; split <;> omega
theorem PopInv.less {at_ n h : Int} {s : S59} {r : List S59} {out : List S38} {fin : Int × List S59 × List S38} {K : Nat} (I : PopInv at_ n h (s :: r) out fin K) (hn : n < h) (hs : h - n < s.f1) :
    PopInv at_ n n (⟨s.f0, s.f1 - (h - n)⟩ :: r) (out ++ List.replicate (h - n).toNat ⟨s.f0, at_⟩) fin (r.length + 1) ∧ r.length + 1 < K := by
  have hsum := I.sum
  have hk := I.k
  have hr := I.room
  have hf := I.fin_
  simp only [sumM] at hsum
  rw [if_pos hn] at hk
  rw [popR, if_pos hn, if_neg (by omega)] at hf
  have := sumM_nonneg r (fun x hx => I.pos x (List.mem_cons_of_mem _ hx))
  refine ⟨⟨by simp only [sumM]; omega, fun x hx => ?_, by have := I.hi; omega, ?_, by rw [popR_done _ _ _ _ _ (by omega)]; exact hf, by simp⟩, ?_⟩
  · rcases List.mem_cons.1 hx with rfl | hx
    · show 1 ≤ s.f1 - (h - n); omega
    · exact I.pos x (List.mem_cons_of_mem _ hx)
  · rw [List.length_append, List.length_replicate]; omega
  · rw [hk, List.length_cons]; omega
set_option maxHeartbeats 8000000 in
set_option maxRecDepth 100000 in
theorem set_pop (B : Nat) (w0 w : World) (gh gs go : Nat) (at_ n h : Int) (vs vo : Value) (rs : List S59) (out : List S38) (S : LS B w0 w gh gs go h vs vo rs.reverse out) (hn : ¬ h < n) (h0 : 0 ≤ n) (fin : Int × List S59 × List S38) (K : Nat) (I : PopInv at_ n h rs out fin K) :
    Calls Try.prog 50 #[.int .i64 at_, .int .i64 n, .pointer (some ⟨gh, 0, none⟩), .pointer (some ⟨gs, 0, none⟩), .pointer (some ⟨go, 0, none⟩)] w fun e w' => e = .returned (.tuple #[]) ∧ ∃ vs' vo', LS B w0 w' gh gs go fin.1 vs' vo' fin.2.1.reverse fin.2.2 := by
  have S := Aside0.mk S
  have I := Aside0.mk I
  have ch : w.cell? ⟨gh, 0, none⟩ = some (.int .i64 h) := (blk_cell S.out.bh 0).trans rfl
  have t1 : decide (h < n) = false := decide_eq_false hn
  clear hn
  go_enter Try.func50, Try.ntmps50
  go_wp2_with fail
  go_loopg [7, 8] K (fun kq v7 v8 w' => ∃ (h : Int) (rs : List S59) (out : List S38) (vs vo : Value), Aside0 (LS B w0 w' gh gs go h vs vo rs.reverse out) ∧ Aside0 (PopInv at_ n h rs out fin kq))
  case atStart => exact ⟨h, rs, out, vs, vo, S, I⟩
  case round =>
    clear S I ch t1
    obtain ⟨h, rs, out, vs, vo, S, I⟩ := hrel
    have ch : wr.cell? ⟨gh, 0, none⟩ = some (.int .i64 h) := (blk_cell S.out.bh 0).trans rfl
    by_cases hn : n < h
    · obtain ⟨s, r, rfl⟩ : ∃ s r, rs = s :: r := by
        cases rs with
        | nil => have := I.out.sum; simp [sumM] at this; omega
        | cons s r => exact ⟨s, r, rfl⟩
      have t1 : decide (n < h) = true := decide_eq_true hn
      obtain ⟨g2, c2, e2, _, _, _, _⟩ := Kd.R_form S.out.rs (by simp)
      rw [List.length_reverse, List.length_cons] at e2
      subst e2
      have cs : wr.cell? ⟨gs, 0, none⟩ = some (.slice (some ⟨g2, 0, none⟩) (r.length + 1) c2) := (blk_cell S.out.bs 0).trans rfl
      have fh : wr.frozen? ⟨gh, 0, none⟩ = false := blk_frozen S.out.bh 0
      obtain ⟨ce, hcl, hM, hcc, hfr⟩ := Kd.R_elem S.out.rs z59 (r.length : Int) (by omega) (by omega)
      obtain rfl := k59_openM hM
      have hs : (s :: r).reverse.getD (r.length : Int).toNat z59 = s := by simp
      rw [hs] at hcc
      have d0 : wr.cell? ⟨g2, r.length * 2, none⟩ = some (.int .i64 s.f0) := hcc 0 _ rfl
      have d1 : wr.cell? ⟨g2, r.length * 2 + 1, none⟩ = some (.int .i64 s.f1) := hcc 1 _ rfl
      clear hcl hM hcc hfr hs
      have b1 : 1 ≤ s.f1 := I.out.pos s List.mem_cons_self
      have b2 : h ≤ 1048576 := I.out.hi
      have b3 : s.f1 ≤ h := by
        have := I.out.sum; have := sumM_nonneg r (fun x hx => I.out.pos x (List.mem_cons_of_mem _ hx)); simp only [sumM] at *; omega
      have b4 : r.length < 2000000 := by
        have := sumM_len r (fun x hx => I.out.pos x (List.mem_cons_of_mem _ hx))
        have := I.out.sum
        simp only [sumM] at *; omega
      obtain ⟨G, hG⟩ : ∃ G, G = gk := ⟨gk, rfl⟩
      subst hG
      have b5 : n < h := hn
      clear hn
      by_cases c : h - n < s.f1
      · have t2 : decide (h - n < s.f1) = true := decide_eq_true c
        go_wp2_with fail
        go_quiet (fail)
        go_wp2_with fail
        generalize hkk : h - n = kk
        have k4 := Aside0.mk (show (kk = s.f1 ∧ s.f1 ≤ h - n) ∨ (kk = h - n ∧ h - n < s.f1) from by omega)
        have k1 : 1 ≤ kk := by omega
        have k2 : kk ≤ h - n := by omega
        have k3 : kk ≤ s.f1 := by omega
        clear hkk c t2
        have S := Aside0.mk (S.out.drewN nq)
        generalize wr.drewN nq = wq at S ⊢
        clear ch cs fh d0 d1
        go_loopg [38] kk.toNat (fun jq v38 w2 => ∃ (j : Nat) (vo : Value), v38 = .int .i64 j ∧ Aside0 (j + jq = kk.toNat) ∧ Aside0 (LS B w0 w2 gh gs go h (.slice (some ⟨g2, 0, none⟩) (r.length + 1) c2) vo (s :: r).reverse (out ++ List.replicate j ⟨s.f0, at_⟩)))
        case atStart => exact ⟨0, vo, rfl, ⟨by omega⟩, by simpa using S⟩
        case round =>
          clear S
          obtain ⟨j, vo, rfl, hj, S⟩ := hrel
          obtain ⟨Ao, co, eo⟩ := Kd.R_slice S.out.ro
          subst eo
          obtain ⟨ce, hcl, hM, hcc, hfr⟩ := Kd.R_elem S.out.rs z59 (r.length : Int) (by omega) (by omega)
          obtain rfl := k59_openM hM
          have hs : (s :: r).reverse.getD (r.length : Int).toNat z59 = s := by simp
          rw [hs] at hcc
          have d0 : wr.cell? ⟨g2, r.length * 2, none⟩ = some (.int .i64 s.f0) := hcc 0 _ rfl
          have d1 : wr.cell? ⟨g2, r.length * 2 + 1, none⟩ = some (.int .i64 s.f1) := hcc 1 _ rfl
          have f1 : wr.frozen? ⟨g2, r.length * 2 + 1, none⟩ = false := hfr 1
          clear hcl hM hcc hfr hs
          by_cases hlt : (j : Int) < kk
          · have t2 : decide ((j : Int) < kk) = true := decide_eq_true hlt
            have hlo : (out ++ List.replicate j (⟨s.f0, at_⟩ : S38)).length < 4398046511104 := by
              have := I.out.room; simp; omega
            generalize hol : (out ++ List.replicate j ⟨s.f0, at_⟩ : List S38) = ol at S hlo
            have hol := Aside0.mk hol
            have col : wr.cell? ⟨go, 0, none⟩ = some (.slice Ao ol.length co) := (blk_cell S.out.bo 0).trans (by simp [← hol.out])
            go_wp2_with fail
            refine start_ (n := 10) (S := fun w' => w'.cell? ⟨go, 0, none⟩ = some (.slice Ao ol.length co) ∧ w'.cell? ⟨g2, r.length * 2, none⟩ = some (.int .i64 s.f0)) (ds := [8, 9]) #[false, false, false, false, false, false, false, false, false, false] (by kernel_rfl) rfl rfl ⟨col, d0⟩ (fun hHeld => ?_)
            have S := Aside0.mk S.out.drew
            generalize wr.drew = wd at S hHeld ⊢
            clear col d0 d1 f1
            refine pure_ (i := 1) (N := some 41) (v := ?_) (a' := ?_) #[false, true, false, false, false, false, false, false, false, false] rfl rfl (by kernel_rfl) (fun _ _ _ h => h) (Or.inl ⟨by rfl, ?_⟩) ?_ ?_
            rotate_left
            · intro w'
              go_simp
              with_reducible rfl
            rotate_left
            · simp only [Act.put, List.setIfInBounds_toArray, List.set_cons_zero, List.set_cons_succ, i64_w, i32_w]
              rfl
            refine pure_ (i := 2) (N := some 42) (v := ?_) (a' := ?_) #[false, true, true, false, false, false, false, false, false, false] rfl rfl (by kernel_rfl) (fun _ _ _ h => h) (Or.inl ⟨by rfl, ?_⟩) ?_ ?_
            rotate_left
            · intro w'
              go_simp
              with_reducible rfl
            rotate_left
            · simp only [Act.put, List.setIfInBounds_toArray, List.set_cons_zero, List.set_cons_succ, i64_w, i32_w]
              rfl
            refine pure_ (i := 3) (N := some 43) (v := ?_) (a' := ?_) #[false, true, true, true, false, false, false, false, false, false] rfl rfl (by kernel_rfl) (fun _ _ _ h => h) (Or.inl ⟨by rfl, ?_⟩) ?_ ?_
            rotate_left
            · intro w'
              go_simp
              with_reducible rfl
            rotate_left
            · simp only [Act.put, List.setIfInBounds_toArray, List.set_cons_zero, List.set_cons_succ, i64_w, i32_w]
              rfl
            refine pure_ (i := 5) (N := some 45) (v := ?_) (a' := ?_) #[false, true, true, true, false, true, false, false, false, false] rfl rfl (by kernel_rfl) (fun _ _ _ h => h) (Or.inl ⟨by rfl, ?_⟩) ?_ ?_
            rotate_left
            · intro w'
              go_simp
              with_reducible rfl
            rotate_left
            · simp only [Act.put, List.setIfInBounds_toArray, List.set_cons_zero, List.set_cons_succ, i64_w, i32_w]
              rfl
            refine take_ (i := 0) (N := some 40) (v := ?_) (a' := ?_) #[true, true, true, true, false, true, false, false, false, false] rfl rfl (by kernel_rfl) (fun _ _ _ h => h) (Or.inl ⟨by rfl, ?_⟩) hHeld ?_ ?_
            rotate_left
            · rintro w' ⟨s0, s1⟩
              go_simp
              with_reducible rfl
            rotate_left
            · simp only [Act.put, List.setIfInBounds_toArray, List.set_cons_zero, List.set_cons_succ, i64_w, i32_w]
              rfl
            refine take_ (i := 4) (N := some 44) (v := ?_) (a' := ?_) #[true, true, true, true, true, true, false, false, false, false] rfl rfl (by kernel_rfl) (fun _ _ _ h => h) (Or.inl ⟨by rfl, ?_⟩) hHeld ?_ ?_
            rotate_left
            · rintro w' ⟨s0, s1⟩
              go_simp
              with_reducible rfl
            rotate_left
            · simp only [Act.put, List.setIfInBounds_toArray, List.set_cons_zero, List.set_cons_succ, i64_w, i32_w]
              rfl
            refine pure_ (i := 6) (N := some 46) (v := ?_) (a' := ?_) #[true, true, true, true, true, true, true, false, false, false] rfl rfl (by kernel_rfl) (fun _ _ _ h => h) (Or.inl ⟨by rfl, ?_⟩) ?_ ?_
            rotate_left
            · intro w'
              go_simp
              with_reducible rfl
            rotate_left
            · simp only [Act.put, List.setIfInBounds_toArray, List.set_cons_zero, List.set_cons_succ, i64_w, i32_w]
              rfl
            refine one_ (i := 7) (N := some 47) #[true, true, true, true, true, true, true, true, false, false] rfl rfl (by kernel_rfl) (by decide) (fun K hK => ?_)
            refine value_ (w1 := ?_) (v := ?_) (by rfl) rfl ?_ ?_
            rotate_left 2
            · go_simp
              constructor
              · rfl
              · rfl
            refine hK.out _ _ ⟨(by rw [World.cell?_alloc_lt _ _ _ (World.block_lt_of_cell? _ _ hHeld.1)]; exact hHeld.1), (by rw [World.cell?_alloc_lt _ _ _ (World.block_lt_of_cell? _ _ hHeld.2)]; exact hHeld.2)⟩ (fun hHeld => ?_)
            clear hK K
            refine norm_ (a' := ?_) ?_ ?_
            rotate_left
            · show Act.put _ (some 47) _ = _
              simp only [Act.put, List.setIfInBounds_toArray, List.set_cons_zero, List.set_cons_succ, i64_w, i32_w]
              rfl
            refine last_ (i := 8) (N := some 48) #[true, true, true, true, true, true, true, true, true, false] rfl rfl (by kernel_rfl) (by decide) (fun K hK => ?_)
            refine Kd.R_append_step k38 (w0 := w0) B (by rfl) (.tmp 40) (.tmp 47) 30 38 (.agg #[(.int .i64 0), (.int .i64 0)]) 16 rfl Try.underlying30 info38 rfl (by decide) (by omega) (.slice Ao ol.length co) ol (⟨s.f0, at_⟩ : S38) [.int .i64 s.f0, .int .i64 at_] (fun _ => True) (fun _ => False) rfl rfl (k38_mkM _ _ _ (⟨s.f0, at_⟩ : S38)) (fun _ hk => hk.elim) (fun _ _ => trivial) S.out.ro S.out.below S.out.base (by omega) ?_
            intro v1 w1 hR hb hg _
            obtain ⟨A1, n1, e1⟩ := Kd.R_slice hR
            rw [List.length_append, List.length_singleton] at e1
            subst e1
            have K1 := Aside0.mk (S.out.kept_o hg)
            have S2 := Aside0.mk (S.out.outed hR hb hg)
            clear hR hb hg
            have c1 : w1.cell? ⟨go, 0, none⟩ = some (.slice Ao ol.length co) := (blk_cell K1.out.2.2 0).trans rfl
            have f1 : w1.frozen? ⟨go, 0, none⟩ = false := blk_frozen K1.out.2.2 0
            refine hK.out _ _ ?_
            clear hK K
            refine norm_ (a' := ?_) ?_ ?_
            rotate_left
            · show Act.put _ (some 48) _ = _
              simp only [Act.put, List.setIfInBounds_toArray, List.set_cons_zero, List.set_cons_succ, i64_w, i32_w]
              rfl
            refine last_ (i := 9) (N := none) #[true, true, true, true, true, true, true, true, true, true] rfl rfl (by kernel_rfl) (by decide) (fun K hK => ?_)
            refine skip_ (w1 := ?_) (by rfl) rfl ?_ ?_
            rotate_left
            · go_simp
              rfl
            refine hK.out _ _ ?_
            clear hK K
            refine done_ (by kernel_rfl) ?_

            go_wp2
            go_roundg (gk - 1)
            case measure => have := hj.out; omega
            case rel =>
              refine ⟨j + 1, .slice A1 (ol.length + 1) n1, by go_num, ⟨by have := hj.out; omega⟩, ⟨?_⟩⟩
              have e3 := S2.out
              have hrw : ol ++ [(⟨s.f0, at_⟩ : S38)] = out ++ List.replicate (j + 1) ⟨s.f0, at_⟩ := by rw [← hol.out, List.append_assoc, ← List.replicate_succ']
              rw [hrw] at e3
              exact e3
          · obtain rfl : j = kk.toNat := by have := hj.out; omega
            have t2 : decide (((kk.toNat : Nat) : Int) < kk) = false := decide_eq_false hlt
            clear hlt hj
            have ch : wr.cell? ⟨gh, 0, none⟩ = some (.int .i64 h) := (blk_cell S.out.bh 0).trans rfl
            have fh : wr.frozen? ⟨gh, 0, none⟩ = false := blk_frozen S.out.bh 0
            have S1 := Aside0.mk (S.out.setH (h - kk))
            have S2 := Aside0.mk (S1.out.setMany r.length (by simp) (s.f1 - kk))
            clear d0 d1 f1
            obtain ⟨ce, hcl, hM, hcc, hfr⟩ := Kd.R_elem S1.out.rs z59 (r.length : Int) (by omega) (by omega)
            obtain rfl := k59_openM hM
            have hs : (s :: r).reverse.getD (r.length : Int).toNat z59 = s := by simp
            rw [hs] at hcc
            have d1 : (wr.setCell ⟨gh, 0, none⟩ (.int .i64 (h - kk))).cell? ⟨g2, r.length * 2 + 1, none⟩ = some (.int .i64 s.f1) := hcc 1 _ rfl
            have f1 : (wr.setCell ⟨gh, 0, none⟩ (.int .i64 (h - kk))).frozen? ⟨g2, r.length * 2 + 1, none⟩ = false := hfr 1
            clear hcl hM hcc hfr hs
            have S2' := S2.out
            have hs : (s :: r).reverse.getD r.length z59 = s := by simp
            rw [hs, rev_set] at S2'
            clear hs S2
            have S2 := Aside0.mk S2'
            clear S2'
            obtain ⟨ce, hcl, hM, hcc, hfr⟩ := Kd.R_elem S2.out.rs z59 (r.length : Int) (by omega) (by omega)
            obtain rfl := k59_openM hM
            have hs : ((⟨s.f0, s.f1 - kk⟩ : S59) :: r).reverse.getD (r.length : Int).toNat z59 = ⟨s.f0, s.f1 - kk⟩ := by simp
            rw [hs] at hcc
            have d2 : ((wr.setCell ⟨gh, 0, none⟩ (.int .i64 (h - kk))).setCell ⟨g2, r.length * 2 + 1, none⟩ (.int .i64 (s.f1 - kk))).cell? ⟨g2, r.length * 2 + 1, none⟩ = some (.int .i64 (s.f1 - kk)) := hcc 1 _ rfl
            clear hcl hM hcc hfr hs
            have cs2 : ((wr.setCell ⟨gh, 0, none⟩ (.int .i64 (h - kk))).setCell ⟨g2, r.length * 2 + 1, none⟩ (.int .i64 (s.f1 - kk))).cell? ⟨gs, 0, none⟩ = some (.slice (some ⟨g2, 0, none⟩) (r.length + 1) c2) := (blk_cell S2.out.bs 0).trans rfl
            have fs2 : ((wr.setCell ⟨gh, 0, none⟩ (.int .i64 (h - kk))).setCell ⟨g2, r.length * 2 + 1, none⟩ (.int .i64 (s.f1 - kk))).frozen? ⟨gs, 0, none⟩ = false := blk_frozen S2.out.bs 0
            have hc2 : r.length + 1 ≤ c2 := (Kd.R_reads' S.out.rs).2.1
            have S3 := S2.out.cut (m := r.length) (by simp)
            rw [rev_take] at S3
            have S3 := Aside0.mk S3
            by_cases c : kk = s.f1
            · have t3 : ((s.f1 - kk) == 0) = true := by rw [beq_iff_eq]; omega
              have I2 := Aside0.mk (I.out.popped b5 (by omega))
              rw [← c] at I2
              clear c k4
              go_wp2
              go_roundg (r.length + if n < h - kk then 1 else 0)
              case measure => exact I2.out.2
              case rel => exact ⟨h - kk, r, _, _, _, S3, ⟨I2.out.1⟩⟩
            · have c' : kk = h - n := by have := k4.out; omega
              have t3 : ((s.f1 - kk) == 0) = false := by rw [beq_eq_false_iff_ne]; omega
              have I2 := Aside0.mk (I.out.less b5 (by have := k4.out; omega))
              rw [← c'] at I2
              have c'' := Aside0.mk (show n = h - kk from by omega)
              clear c c' k4
              go_wp2
              go_roundg (r.length + 1)
              case measure => exact I2.out.2
              case rel => exact ⟨n, _, _, _, _, ⟨by rw [c''.out]; rw [← c''.out]; have e3 := S2.out; rw [← c''.out] at e3; exact e3⟩, ⟨I2.out.1⟩⟩
      · have t2 : decide (h - n < s.f1) = false := decide_eq_false c
        go_wp2_with fail
        go_quiet (fail)
        go_wp2_with fail
        generalize hkk : s.f1 = kk
        have k4 := Aside0.mk (show (kk = s.f1 ∧ s.f1 ≤ h - n) ∨ (kk = h - n ∧ h - n < s.f1) from by omega)
        have k1 : 1 ≤ kk := by omega
        have k2 : kk ≤ h - n := by omega
        have k3 : kk ≤ s.f1 := by omega
        clear hkk c t2
        have S := Aside0.mk (S.out.drewN nq)
        generalize wr.drewN nq = wq at S ⊢
        clear ch cs fh d0 d1
        go_loopg [38] kk.toNat (fun jq v38 w2 => ∃ (j : Nat) (vo : Value), v38 = .int .i64 j ∧ Aside0 (j + jq = kk.toNat) ∧ Aside0 (LS B w0 w2 gh gs go h (.slice (some ⟨g2, 0, none⟩) (r.length + 1) c2) vo (s :: r).reverse (out ++ List.replicate j ⟨s.f0, at_⟩)))
        case atStart => exact ⟨0, vo, rfl, ⟨by omega⟩, by simpa using S⟩
        case round =>
          clear S
          obtain ⟨j, vo, rfl, hj, S⟩ := hrel
          obtain ⟨Ao, co, eo⟩ := Kd.R_slice S.out.ro
          subst eo
          obtain ⟨ce, hcl, hM, hcc, hfr⟩ := Kd.R_elem S.out.rs z59 (r.length : Int) (by omega) (by omega)
          obtain rfl := k59_openM hM
          have hs : (s :: r).reverse.getD (r.length : Int).toNat z59 = s := by simp
          rw [hs] at hcc
          have d0 : wr.cell? ⟨g2, r.length * 2, none⟩ = some (.int .i64 s.f0) := hcc 0 _ rfl
          have d1 : wr.cell? ⟨g2, r.length * 2 + 1, none⟩ = some (.int .i64 s.f1) := hcc 1 _ rfl
          have f1 : wr.frozen? ⟨g2, r.length * 2 + 1, none⟩ = false := hfr 1
          clear hcl hM hcc hfr hs
          by_cases hlt : (j : Int) < kk
          · have t2 : decide ((j : Int) < kk) = true := decide_eq_true hlt
            have hlo : (out ++ List.replicate j (⟨s.f0, at_⟩ : S38)).length < 4398046511104 := by
              have := I.out.room; simp; omega
            generalize hol : (out ++ List.replicate j ⟨s.f0, at_⟩ : List S38) = ol at S hlo
            have hol := Aside0.mk hol
            have col : wr.cell? ⟨go, 0, none⟩ = some (.slice Ao ol.length co) := (blk_cell S.out.bo 0).trans (by simp [← hol.out])
            go_wp2_with fail
            refine start_ (n := 10) (S := fun w' => w'.cell? ⟨go, 0, none⟩ = some (.slice Ao ol.length co) ∧ w'.cell? ⟨g2, r.length * 2, none⟩ = some (.int .i64 s.f0)) (ds := [8, 9]) #[false, false, false, false, false, false, false, false, false, false] (by kernel_rfl) rfl rfl ⟨col, d0⟩ (fun hHeld => ?_)
            have S := Aside0.mk S.out.drew
            generalize wr.drew = wd at S hHeld ⊢
            clear col d0 d1 f1
            refine pure_ (i := 1) (N := some 41) (v := ?_) (a' := ?_) #[false, true, false, false, false, false, false, false, false, false] rfl rfl (by kernel_rfl) (fun _ _ _ h => h) (Or.inl ⟨by rfl, ?_⟩) ?_ ?_
            rotate_left
            · intro w'
              go_simp
              with_reducible rfl
            rotate_left
            · simp only [Act.put, List.setIfInBounds_toArray, List.set_cons_zero, List.set_cons_succ, i64_w, i32_w]
              rfl
            refine pure_ (i := 2) (N := some 42) (v := ?_) (a' := ?_) #[false, true, true, false, false, false, false, false, false, false] rfl rfl (by kernel_rfl) (fun _ _ _ h => h) (Or.inl ⟨by rfl, ?_⟩) ?_ ?_
            rotate_left
            · intro w'
              go_simp
              with_reducible rfl
            rotate_left
            · simp only [Act.put, List.setIfInBounds_toArray, List.set_cons_zero, List.set_cons_succ, i64_w, i32_w]
              rfl
            refine pure_ (i := 3) (N := some 43) (v := ?_) (a' := ?_) #[false, true, true, true, false, false, false, false, false, false] rfl rfl (by kernel_rfl) (fun _ _ _ h => h) (Or.inl ⟨by rfl, ?_⟩) ?_ ?_
            rotate_left
            · intro w'
              go_simp
              with_reducible rfl
            rotate_left
            · simp only [Act.put, List.setIfInBounds_toArray, List.set_cons_zero, List.set_cons_succ, i64_w, i32_w]
              rfl
            refine pure_ (i := 5) (N := some 45) (v := ?_) (a' := ?_) #[false, true, true, true, false, true, false, false, false, false] rfl rfl (by kernel_rfl) (fun _ _ _ h => h) (Or.inl ⟨by rfl, ?_⟩) ?_ ?_
            rotate_left
            · intro w'
              go_simp
              with_reducible rfl
            rotate_left
            · simp only [Act.put, List.setIfInBounds_toArray, List.set_cons_zero, List.set_cons_succ, i64_w, i32_w]
              rfl
            refine take_ (i := 0) (N := some 40) (v := ?_) (a' := ?_) #[true, true, true, true, false, true, false, false, false, false] rfl rfl (by kernel_rfl) (fun _ _ _ h => h) (Or.inl ⟨by rfl, ?_⟩) hHeld ?_ ?_
            rotate_left
            · rintro w' ⟨s0, s1⟩
              go_simp
              with_reducible rfl
            rotate_left
            · simp only [Act.put, List.setIfInBounds_toArray, List.set_cons_zero, List.set_cons_succ, i64_w, i32_w]
              rfl
            refine take_ (i := 4) (N := some 44) (v := ?_) (a' := ?_) #[true, true, true, true, true, true, false, false, false, false] rfl rfl (by kernel_rfl) (fun _ _ _ h => h) (Or.inl ⟨by rfl, ?_⟩) hHeld ?_ ?_
            rotate_left
            · rintro w' ⟨s0, s1⟩
              go_simp
              with_reducible rfl
            rotate_left
            · simp only [Act.put, List.setIfInBounds_toArray, List.set_cons_zero, List.set_cons_succ, i64_w, i32_w]
              rfl
            refine pure_ (i := 6) (N := some 46) (v := ?_) (a' := ?_) #[true, true, true, true, true, true, true, false, false, false] rfl rfl (by kernel_rfl) (fun _ _ _ h => h) (Or.inl ⟨by rfl, ?_⟩) ?_ ?_
            rotate_left
            · intro w'
              go_simp
              with_reducible rfl
            rotate_left
            · simp only [Act.put, List.setIfInBounds_toArray, List.set_cons_zero, List.set_cons_succ, i64_w, i32_w]
              rfl
            refine one_ (i := 7) (N := some 47) #[true, true, true, true, true, true, true, true, false, false] rfl rfl (by kernel_rfl) (by decide) (fun K hK => ?_)
            refine value_ (w1 := ?_) (v := ?_) (by rfl) rfl ?_ ?_
            rotate_left 2
            · go_simp
              constructor
              · rfl
              · rfl
            refine hK.out _ _ ⟨(by rw [World.cell?_alloc_lt _ _ _ (World.block_lt_of_cell? _ _ hHeld.1)]; exact hHeld.1), (by rw [World.cell?_alloc_lt _ _ _ (World.block_lt_of_cell? _ _ hHeld.2)]; exact hHeld.2)⟩ (fun hHeld => ?_)
            clear hK K
            refine norm_ (a' := ?_) ?_ ?_
            rotate_left
            · show Act.put _ (some 47) _ = _
              simp only [Act.put, List.setIfInBounds_toArray, List.set_cons_zero, List.set_cons_succ, i64_w, i32_w]
              rfl
            refine last_ (i := 8) (N := some 48) #[true, true, true, true, true, true, true, true, true, false] rfl rfl (by kernel_rfl) (by decide) (fun K hK => ?_)
            refine Kd.R_append_step k38 (w0 := w0) B (by rfl) (.tmp 40) (.tmp 47) 30 38 (.agg #[(.int .i64 0), (.int .i64 0)]) 16 rfl Try.underlying30 info38 rfl (by decide) (by omega) (.slice Ao ol.length co) ol (⟨s.f0, at_⟩ : S38) [.int .i64 s.f0, .int .i64 at_] (fun _ => True) (fun _ => False) rfl rfl (k38_mkM _ _ _ (⟨s.f0, at_⟩ : S38)) (fun _ hk => hk.elim) (fun _ _ => trivial) S.out.ro S.out.below S.out.base (by omega) ?_
            intro v1 w1 hR hb hg _
            obtain ⟨A1, n1, e1⟩ := Kd.R_slice hR
            rw [List.length_append, List.length_singleton] at e1
            subst e1
            have K1 := Aside0.mk (S.out.kept_o hg)
            have S2 := Aside0.mk (S.out.outed hR hb hg)
            clear hR hb hg
            have c1 : w1.cell? ⟨go, 0, none⟩ = some (.slice Ao ol.length co) := (blk_cell K1.out.2.2 0).trans rfl
            have f1 : w1.frozen? ⟨go, 0, none⟩ = false := blk_frozen K1.out.2.2 0
            refine hK.out _ _ ?_
            clear hK K
            refine norm_ (a' := ?_) ?_ ?_
            rotate_left
            · show Act.put _ (some 48) _ = _
              simp only [Act.put, List.setIfInBounds_toArray, List.set_cons_zero, List.set_cons_succ, i64_w, i32_w]
              rfl
            refine last_ (i := 9) (N := none) #[true, true, true, true, true, true, true, true, true, true] rfl rfl (by kernel_rfl) (by decide) (fun K hK => ?_)
            refine skip_ (w1 := ?_) (by rfl) rfl ?_ ?_
            rotate_left
            · go_simp
              rfl
            refine hK.out _ _ ?_
            clear hK K
            refine done_ (by kernel_rfl) ?_

            go_wp2
            go_roundg (gk - 1)
            case measure => have := hj.out; omega
            case rel =>
              refine ⟨j + 1, .slice A1 (ol.length + 1) n1, by go_num, ⟨by have := hj.out; omega⟩, ⟨?_⟩⟩
              have e3 := S2.out
              have hrw : ol ++ [(⟨s.f0, at_⟩ : S38)] = out ++ List.replicate (j + 1) ⟨s.f0, at_⟩ := by rw [← hol.out, List.append_assoc, ← List.replicate_succ']
              rw [hrw] at e3
              exact e3
          · obtain rfl : j = kk.toNat := by have := hj.out; omega
            have t2 : decide (((kk.toNat : Nat) : Int) < kk) = false := decide_eq_false hlt
            clear hlt hj
            have ch : wr.cell? ⟨gh, 0, none⟩ = some (.int .i64 h) := (blk_cell S.out.bh 0).trans rfl
            have fh : wr.frozen? ⟨gh, 0, none⟩ = false := blk_frozen S.out.bh 0
            have S1 := Aside0.mk (S.out.setH (h - kk))
            have S2 := Aside0.mk (S1.out.setMany r.length (by simp) (s.f1 - kk))
            clear d0 d1 f1
            obtain ⟨ce, hcl, hM, hcc, hfr⟩ := Kd.R_elem S1.out.rs z59 (r.length : Int) (by omega) (by omega)
            obtain rfl := k59_openM hM
            have hs : (s :: r).reverse.getD (r.length : Int).toNat z59 = s := by simp
            rw [hs] at hcc
            have d1 : (wr.setCell ⟨gh, 0, none⟩ (.int .i64 (h - kk))).cell? ⟨g2, r.length * 2 + 1, none⟩ = some (.int .i64 s.f1) := hcc 1 _ rfl
            have f1 : (wr.setCell ⟨gh, 0, none⟩ (.int .i64 (h - kk))).frozen? ⟨g2, r.length * 2 + 1, none⟩ = false := hfr 1
            clear hcl hM hcc hfr hs
            have S2' := S2.out
            have hs : (s :: r).reverse.getD r.length z59 = s := by simp
            rw [hs, rev_set] at S2'
            clear hs S2
            have S2 := Aside0.mk S2'
            clear S2'
            obtain ⟨ce, hcl, hM, hcc, hfr⟩ := Kd.R_elem S2.out.rs z59 (r.length : Int) (by omega) (by omega)
            obtain rfl := k59_openM hM
            have hs : ((⟨s.f0, s.f1 - kk⟩ : S59) :: r).reverse.getD (r.length : Int).toNat z59 = ⟨s.f0, s.f1 - kk⟩ := by simp
            rw [hs] at hcc
            have d2 : ((wr.setCell ⟨gh, 0, none⟩ (.int .i64 (h - kk))).setCell ⟨g2, r.length * 2 + 1, none⟩ (.int .i64 (s.f1 - kk))).cell? ⟨g2, r.length * 2 + 1, none⟩ = some (.int .i64 (s.f1 - kk)) := hcc 1 _ rfl
            clear hcl hM hcc hfr hs
            have cs2 : ((wr.setCell ⟨gh, 0, none⟩ (.int .i64 (h - kk))).setCell ⟨g2, r.length * 2 + 1, none⟩ (.int .i64 (s.f1 - kk))).cell? ⟨gs, 0, none⟩ = some (.slice (some ⟨g2, 0, none⟩) (r.length + 1) c2) := (blk_cell S2.out.bs 0).trans rfl
            have fs2 : ((wr.setCell ⟨gh, 0, none⟩ (.int .i64 (h - kk))).setCell ⟨g2, r.length * 2 + 1, none⟩ (.int .i64 (s.f1 - kk))).frozen? ⟨gs, 0, none⟩ = false := blk_frozen S2.out.bs 0
            have hc2 : r.length + 1 ≤ c2 := (Kd.R_reads' S.out.rs).2.1
            have S3 := S2.out.cut (m := r.length) (by simp)
            rw [rev_take] at S3
            have S3 := Aside0.mk S3
            by_cases c : kk = s.f1
            · have t3 : ((s.f1 - kk) == 0) = true := by rw [beq_iff_eq]; omega
              have I2 := Aside0.mk (I.out.popped b5 (by omega))
              rw [← c] at I2
              clear c k4
              go_wp2
              go_roundg (r.length + if n < h - kk then 1 else 0)
              case measure => exact I2.out.2
              case rel => exact ⟨h - kk, r, _, _, _, S3, ⟨I2.out.1⟩⟩
            · have c' : kk = h - n := by have := k4.out; omega
              have t3 : ((s.f1 - kk) == 0) = false := by rw [beq_eq_false_iff_ne]; omega
              have I2 := Aside0.mk (I.out.less b5 (by have := k4.out; omega))
              rw [← c'] at I2
              have c'' := Aside0.mk (show n = h - kk from by omega)
              clear c c' k4
              go_wp2
              go_roundg (r.length + 1)
              case measure => exact I2.out.2
              case rel => exact ⟨n, _, _, _, _, ⟨by rw [c''.out]; rw [← c''.out]; have e3 := S2.out; rw [← c''.out] at e3; exact e3⟩, ⟨I2.out.1⟩⟩
    · have t1 : decide (n < h) = false := decide_eq_false hn
      have hf := I.out.fin_
      rw [popR_done _ _ _ _ _ hn] at hf
      have hf := Aside0.mk hf
      go_wp2
      go_end0
      refine ⟨rfl, vs, vo, ?_⟩
      rw [← hf.out]
      exact S.out
end Go.Proofs.Ytapfdhaohgkjeaa.XP

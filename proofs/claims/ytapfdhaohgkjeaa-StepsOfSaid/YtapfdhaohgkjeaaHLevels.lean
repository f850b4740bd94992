/- steps.Levels. -/
import Derived.Test.YtapfdhaohgkjeaaHSet
import Derived.Test.YtapfdhaohgkjeaaHPop
import Derived.Test.YtapfdhaohgkjeaaHSort
namespace Go.Proofs.Ytapfdhaohgkjeaa.XP
open Go.RowKit Go.Proofs.YtapfdhaohgkjeaaW.PrintWords Go.Proofs.YtapfdhaohgkjeaaW.PrintLast Go.Proofs.YtapfdhaohgkjeaaW.PrintMore
attribute [local go_sem] max2_int min2_int max_two min_two
set_option linter.unusedVariables false
set_option linter.unusedSimpArgs false
abbrev LSt : Type := Int × List S59 × List S38
def setSt (at_ n : Int) (st : LSt) : LSt := if st.1 < n then (n, ⟨at_, n - st.1⟩ :: st.2.1, st.2.2) else popR at_ n st.1 st.2.1 st.2.2
def levelsSt (l : List S48) : LSt := l.foldl (fun st s => setSt s.f0 (mn (mx s.f1 0) 1048576) st) (0, [], [])
def levelsOut (l : List S48) : List S38 := (setSt 1099511627776 0 (levelsSt l)).2.2
def steps_Levels.f (l : List S48) : Option (List S38) := if l.length ≤ 1048576 then slices_SortFunc_51__52.f (levelsOut l) else none
structure LInv (j : Nat) (st : LSt) : Prop where
  sum : sumM st.2.1 = st.1
  pos : ∀ s ∈ st.2.1, 1 ≤ s.f1
  hi : st.1 ≤ 1048576
  room : st.2.2.length + st.1.toNat ≤ j * 1048576
theorem popR_inv (at_ n : Int) (h0 : 0 ≤ n) : ∀ (rs : List S59) (h : Int) (out : List S38), sumM rs = h → (∀ s ∈ rs, 1 ≤ s.f1) → n ≤ h →
    sumM (popR at_ n h rs out).2.1 = (popR at_ n h rs out).1 ∧ (∀ s ∈ (popR at_ n h rs out).2.1, 1 ≤ s.f1) ∧ (popR at_ n h rs out).1 = n ∧ (popR at_ n h rs out).2.2.length + (popR at_ n h rs out).1.toNat = out.length + h.toNat
  | [], h, out, hs, hp, hn => by
    simp only [sumM] at hs
    simp only [popR, sumM]
    exact ⟨by omega, hp, by omega, trivial⟩
  | s :: r, h, out, hs, hp, hn => by
    simp only [sumM] at hs
    have hs1 := hp s List.mem_cons_self
    have hr := sumM_nonneg r (fun x hx => hp x (List.mem_cons_of_mem _ hx))
    by_cases c : n < h
    · by_cases c2 : s.f1 ≤ h - n
      · rw [popR, if_pos c, if_pos c2]
        have ih := popR_inv at_ n h0 r (h - s.f1) (out ++ List.replicate s.f1.toNat ⟨s.f0, at_⟩) (by omega) (fun x hx => hp x (List.mem_cons_of_mem _ hx)) (by omega)
        refine ⟨ih.1, ih.2.1, ih.2.2.1, ih.2.2.2.trans ?_⟩
        rw [List.length_append, List.length_replicate]; omega
      · rw [popR, if_pos c, if_neg c2]
        refine ⟨by simp only [sumM]; omega, fun x hx => ?_, rfl, ?_⟩
        · rcases List.mem_cons.1 hx with rfl | hx
          · show 1 ≤ s.f1 - (h - n); omega
          · exact hp x (List.mem_cons_of_mem _ hx)
        · simp only [List.length_append, List.length_replicate]; omega
    · rw [popR_done _ _ _ _ _ c]
      refine ⟨by simp only [sumM]; omega, hp, by show h = n; omega, rfl⟩
theorem LInv.set {j : Nat} {st : LSt} (I : LInv j st) (at_ n : Int) (h0 : 0 ≤ n) (hn : n ≤ 1048576) : LInv (j + 1) (setSt at_ n st) := by
  obtain ⟨h, rs, out⟩ := st
  have hs := I.sum
  have hp := I.pos
  have hr := I.room
  have hnn := sumM_nonneg rs hp
  simp only at hs hp hr
  by_cases c : h < n
  · have e : setSt at_ n (h, rs, out) = (n, ⟨at_, n - h⟩ :: rs, out) := if_pos c
    rw [e]
    refine ⟨by simp only [sumM]; omega, fun x hx => ?_, hn, ?_⟩
    · rcases List.mem_cons.1 hx with rfl | hx
      · show 1 ≤ n - h; omega
      · exact hp x hx
    · show out.length + n.toNat ≤ (j + 1) * 1048576; omega
  · have e : setSt at_ n (h, rs, out) = popR at_ n h rs out := if_neg c
    rw [e]
    have := popR_inv at_ n h0 rs h out hs hp (by omega)
    have h4 := this.2.2.2
    have h3 := this.2.2.1
    exact ⟨this.1, this.2.1, by omega, by omega⟩
theorem set_any (B : Nat) (w0 w : World) (gh gs go : Nat) (at_ n : Int) (vs vo : Value) (st : LSt) (j : Nat) (S : LS B w0 w gh gs go st.1 vs vo st.2.1.reverse st.2.2) (I : LInv j st) (hj : j ≤ 1048577) (h0 : 0 ≤ n) (hm : n ≤ 1048576) :
    Calls Try.prog 50 #[.int .i64 at_, .int .i64 n, .pointer (some ⟨gh, 0, none⟩), .pointer (some ⟨gs, 0, none⟩), .pointer (some ⟨go, 0, none⟩)] w fun e w' => e = .returned (.tuple #[]) ∧ ∃ vs' vo', LS B w0 w' gh gs go (setSt at_ n st).1 vs' vo' (setSt at_ n st).2.1.reverse (setSt at_ n st).2.2 := by
  obtain ⟨h, rs, out⟩ := st
  have hs := I.sum
  have hp := I.pos
  have hr := I.room
  have hnn := sumM_nonneg rs hp
  have hle := sumM_len rs hp
  simp only at hs hp hr S
  by_cases c : h < n
  · have e : setSt at_ n (h, rs, out) = (n, ⟨at_, n - h⟩ :: rs, out) := if_pos c
    rw [e]
    refine (set_push B w0 w gh gs go at_ n h vs vo rs.reverse out S c (by omega) hm (by rw [List.length_reverse]; omega)).mono ?_
    rintro e w' ⟨rfl, vs', hS⟩
    exact ⟨rfl, vs', vo, by simpa using hS⟩
  · have e : setSt at_ n (h, rs, out) = popR at_ n h rs out := if_neg c
    rw [e]
    exact set_pop B w0 w gh gs go at_ n h vs vo rs out S c h0 (popR at_ n h rs out) (rs.length + if n < h then 1 else 0) ⟨hs, hp, I.hi, by omega, rfl, rfl⟩
theorem levels_take (l : List S48) (k : Nat) (hk : k < l.length) : levelsSt (l.take (k + 1)) = setSt (l.getD k z48).f0 (mn (mx (l.getD k z48).f1 0) 1048576) (levelsSt (l.take k)) := by
  unfold levelsSt
  rw [List.take_succ_eq_append_getElem hk, List.foldl_append, List.foldl_cons, List.foldl_nil, List.getD_eq_getElem?_getD, List.getElem?_eq_getElem hk]
  rfl
theorem clamp (x : Int) : 0 ≤ mn (mx x 0) 1048576 ∧ mn (mx x 0) 1048576 ≤ 1048576 := by unfold mn mx; split <;> split <;> omega
set_option maxHeartbeats 400000 in
set_option maxRecDepth 100000 in
theorem steps_Levels.calls (A0 : Option Addr) (c0 : Nat) (l0 : List (S48)) (r : List (S38)) (w : World) (hr0 : Kd.C k48 w A0 l0.length l0) (hc0 : l0.length ≤ c0) (h : steps_Levels.f l0 = some r) :
    Calls Try.prog 20 #[.slice A0 l0.length c0] w fun e w' => ∃ v0_ : Value, e = .returned (v0_) ∧ Kd.R k38 38 w' w.heap.size (fun _ => True) v0_ r ∧ Below w.heap.size w w' := by
  have hu48 := Try.underlying48
  have HR := Aside0.mk hr0
  have HC := Aside0.mk hc0
  unfold steps_Levels.f at h
  have hlen : l0.length ≤ 1048576 := by
    by_cases c : l0.length ≤ 1048576
    · exact c
    · rw [if_neg c] at h; cases h
  rw [if_pos hlen] at h
  have H := Aside0.mk h
  clear h hr0 hc0
  go_enter Try.func20, Try.ntmps20
  go_wp2_with fail
  have S0 : LS w.heap.size w (((w.alloc (.cells #[.slice none 0 0] 30)).alloc (.cells #[.slice none 0 0] 57)).alloc (.cells #[.int .i64 0] 3)) (w.heap.size + 1 + 1) (w.heap.size + 1) w.heap.size 0 (.slice none 0 0) (.slice none 0 0) [] [] := by
    have s1 : (w.alloc (.cells #[.slice none 0 0] 30)).heap.size = w.heap.size + 1 := World.size_alloc _ _
    have s2 : ((w.alloc (.cells #[.slice none 0 0] 30)).alloc (.cells #[.slice none 0 0] 57)).heap.size = w.heap.size + 1 + 1 := by rw [World.size_alloc, s1]
    refine ⟨below_alloc (below_alloc (below_alloc (Below.refl _ _) _) _) _, by simp; omega, by omega, by omega, Nat.le_refl _, ?_, ?_, ?_, Kd.R_nil _ _ _ _ _, Kd.R_nil _ _ _ _ _⟩
    · have := blk_new ((w.alloc (.cells #[.slice none 0 0] 30)).alloc (.cells #[.slice none 0 0] 57)) (.cells #[.int .i64 0] 3)
      rw [s2] at this; exact this
    · have := blk_new (w.alloc (.cells #[.slice none 0 0] 30)) (.cells #[.slice none 0 0] 57)
      rw [s1] at this; exact blk_alloc this _
    · exact blk_alloc (blk_alloc (blk_new w _) _) _
  generalize hWW : ((w.alloc (.cells #[.slice none 0 0] 30)).alloc (.cells #[.slice none 0 0] 57)).alloc (.cells #[.int .i64 0] 3) = W at S0 ⊢
  clear hWW
  have S0 := Aside0.mk S0
  obtain ⟨B, hB⟩ : ∃ B, B = w.heap.size := ⟨_, rfl⟩
  rw [← hB] at S0 ⊢
  have HB := Aside0.mk hB
  clear hB
  go_loopg [8, 12] l0.length (fun kq v8 v12 w2 => ∃ (k : Nat) (vs vo : Value), v12 = .int .i64 k ∧ Aside0 (k + kq = l0.length) ∧ Aside0 (LS B w w2 (B + 1 + 1) (B + 1) B (levelsSt (l0.take k)).1 vs vo (levelsSt (l0.take k)).2.1.reverse (levelsSt (l0.take k)).2.2) ∧ Aside0 (LInv k (levelsSt (l0.take k))))
  case atStart => exact ⟨0, _, _, rfl, ⟨by omega⟩, S0, ⟨(⟨rfl, fun s hs => (by cases hs), by decide, by decide⟩ : LInv 0 (0, [], []))⟩⟩
  case round =>
    clear S0
    obtain ⟨k, vs, vo, rfl, hk, S, I⟩ := hrel
    by_cases hlt : k < l0.length
    · have t1 : decide (k < l0.length) = true := decide_eq_true hlt
      obtain ⟨ad, rfl, hx0, hx1⟩ := at_T48 HR.out (k : Int) (by omega) (by omega)
      have hx0 : wr.cell? (ad.add (k * 2)) = some (.int .i64 (rd_T48 l0 k).f0) := by
        have := (S.out.below.cell (HB.out ▸ World.block_lt_of_cell? w _ hx0)).trans hx0
        simpa using this
      have hx1 : wr.cell? ⟨(ad.add (k * 2)).block, (ad.add (k * 2)).off + 1, none⟩ = some (.int .i64 (rd_T48 l0 k).f1) := by
        have := (S.out.below.cell (HB.out ▸ World.block_lt_of_cell? w _ hx1)).trans hx1
        simpa using this
      obtain ⟨m1, hm1⟩ : ∃ m1, mx (rd_T48 l0 k).f1 0 = m1 := ⟨_, rfl⟩
      have hm1_ : (if (rd_T48 l0 k).f1 < 0 then 0 else (rd_T48 l0 k).f1) = m1 := hm1
      obtain ⟨m2, hm2⟩ : ∃ m2, mn m1 1048576 = m2 := ⟨_, rfl⟩
      have hm2_ : (if 1048576 < m1 then 1048576 else m1) = m2 := hm2
      have b1 : 0 ≤ m2 ∧ m2 ≤ 1048576 := by rw [← hm2, ← hm1]; exact clamp _
      have b2 := b1.1
      have b3 := b1.2
      have hL := levels_take l0 k hlt
      rw [show l0.getD k z48 = rd_T48 l0 k from by unfold rd_T48; rw [Int.toNat_natCast], hm1, hm2] at hL
      have HL := Aside0.mk hL
      have HI := Aside0.mk (I.out.set (rd_T48 l0 k).f0 m2 b2 b3)
      clear hL b1 hm1 hm2
      go_wp2_with (go_at_call 50; refine (set_any B w _ (B + 1 + 1) (B + 1) B (rd_T48 l0 k).f0 m2 vs vo (levelsSt (l0.take k)) k (S.out.alloc (.cells #[.int .i64 (rd_T48 l0 k).f0, .int .i64 (rd_T48 l0 k).f1] 48)) I.out (by omega) b2 b3).mono ?_; rintro e w' ⟨rfl, vs', vo', S2⟩; have S2 := Aside0.mk S2; clear S I hx0 hx1)
      go_roundg (gk - 1)
      case measure => have := hk.out; omega
      case rel =>
        rw [← HL.out] at S2 HI
        exact ⟨k + 1, vs', vo', by go_num, ⟨by have := hk.out; omega⟩, S2, HI⟩
    · have t1 : decide (k < l0.length) = false := decide_eq_false hlt
      obtain rfl : k = l0.length := by have := hk.out; omega
      rw [List.take_length] at S I
      have HI := I.out.set 1099511627776 0 (by decide) (by decide)
      go_wp2_with fail
      refine (set_any B w _ (B + 1 + 1) (B + 1) B 1099511627776 0 vs vo (levelsSt l0) l0.length S.out I.out (by omega) (by decide) (by decide)).mono ?_
      rintro e w' ⟨rfl, vs', vo', S2⟩
      have S2 := Aside0.mk S2
      obtain ⟨Ao, co, eo⟩ := Kd.R_slice S2.out.ro
      subst eo
      clear S I HI
      have hO : (setSt 1099511627776 0 (levelsSt l0)).2.2 = levelsOut l0 := rfl
      rw [hO] at S2
      clear hO
      have cB : w'.cell? ⟨B, 0, none⟩ = some (.slice Ao (levelsOut l0).length co) := (blk_cell S2.out.bo 0).trans rfl
      have hb0 := S2.out.below
      have hr0 := Kd.R_tight rfl S2.out.ro
      rw [HB.out] at hb0 hr0
      have hcon := Aside0.mk (slices_SortFunc_51__52.calls _ _ _ r w w' hb0 hr0 H.out)
      clear hb0 hr0
      go_wp2_with fail
      refine hcon.out.mono ?_
      rintro e w2 ⟨rfl, hR, hb, hkp⟩
      have hbo : w2.heap[B]? = some (.cells #[.slice Ao (levelsOut l0).length co] 30 (0, 0)) := by
        refine (hkp.2 B (blk_lt S2.out.bo) ?_).trans S2.out.bo
        intro e
        obtain ⟨cells, hc⟩ := Kd.R_typed S2.out.ro B e.symm
        exact blk_ne S2.out.bo hc (by decide) rfl
      have cB2 : w2.cell? ⟨B, 0, none⟩ = some (.slice Ao (levelsOut l0).length co) := (blk_cell hbo 0).trans rfl
      have hR := Aside0.mk (Kd.R_mono hR (ok' := fun _ => True) (fun _ _ => trivial))
      have hb := Aside0.mk hb
      clear hbo hkp cB hcon S2
      go_wp2
      go_ret
      exact ⟨_, rfl, hR.out, hb.out⟩
end Go.Proofs.Ytapfdhaohgkjeaa.XP

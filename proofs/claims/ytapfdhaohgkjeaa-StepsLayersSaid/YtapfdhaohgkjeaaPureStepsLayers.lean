/- The law StepsLayers, plainly. -/
import Derived.Test.YtapfdhaohgkjeaaXPx21
import Derived.Test.YtapfdhaohgkjeaaQAll
import Derived.Test.YtapfdhaohgkjeaaHAll
namespace Go.Proofs.Ytapfdhaohgkjeaa.Q
open Go.RowKit Go.Proofs.YtapfdhaohgkjeaaW.PrintWords Go.Proofs.YtapfdhaohgkjeaaW.PrintMore Go.Proofs.Ytapfdhaohgkjeaa.XP
set_option linter.unusedVariables false
theorem cat_len (l : List S48) (hl : l.length ≤ 24) : ∀ n : Nat, (cat n (fun k => al ((k : Int) + 1) l)).length ≤ n * 24
  | 0 => by simp [cat]
  | n + 1 => by
    have ih := cat_len l hl n
    have hal : (al ((n : Int) + 1) l).length ≤ 24 := by have := alG_length ((n : Int) + 1) l []; simp at this; unfold al; omega
    rw [cat_succ, List.length_append]; omega
/-! #### the reference's Subtract is empty where the first lies in the second -/
theorem contains_loop (A : List S38) (t : Int) (hl : A.length < 4294967296) : ∀ (rest done : List S38), A = done ++ rest → ∃ b, Ev (fun k => bitemporalref03_Contains.l0 k A t (done.length : Int)) b ∧ (b = true ↔ ∃ x ∈ rest, holds x t) := by
  intro rest
  induction rest with
  | nil =>
    intro done e
    have hsl : A.length = done.length := by rw [e]; simp
    exact ⟨false, Ev.step (fun k => by simp only [bitemporalref03_Contains.l0]; rw [if_neg (by omega)]) (Ev.now false), by simp⟩
  | cons x rest ih =>
    intro done e
    have hsl : A.length = done.length + (rest.length + 1) := by rw [e]; simp
    have hg : rd_T38 A (done.length : Int) = x := by rw [e, rd38_mid]
    by_cases c : holds x t
    · exact ⟨true, Ev.step (fun k => by simp only [bitemporalref03_Contains.l0]; rw [if_pos (by omega), if_pos (by omega), hg, rcontains_eq, Option.bind_some, decide_eq_true c, if_pos rfl]) (Ev.now true), fun _ => ⟨x, List.mem_cons_self, c⟩, fun _ => rfl⟩
    · obtain ⟨b, h1, h2⟩ := ih (done ++ [x]) (by rw [e]; simp)
      rw [show (done ++ [x]).length = done.length + 1 by simp] at h1
      refine ⟨b, Ev.step (fun k => by simp only [bitemporalref03_Contains.l0]; rw [if_pos (by omega), if_pos (by omega), hg, rcontains_eq, Option.bind_some, decide_eq_false c, if_neg (by decide), wrap_nat _ (by omega)]) h1, ?_⟩
      rw [h2]
      constructor
      · rintro ⟨y, hy, h⟩; exact ⟨y, List.mem_cons_of_mem _ hy, h⟩
      · rintro ⟨y, hy, h⟩
        rcases List.mem_cons.1 hy with rfl | hy
        · exact absurd h c
        · exact ⟨y, hy, h⟩
theorem containsEv (A : List S38) (t : Int) (hl : A.length < 4294967296) : ∃ b, Ev (fun k => bitemporalref03_Contains.f k A t) b ∧ (b = true ↔ ∃ x ∈ A, holds x t) := contains_loop A t hl A [] rfl
theorem points_loop (A : List S38) (hl : A.length < 268435456) : ∀ (rest done : List S38) (pts : List Int), A = done ++ rest → pts.length ≤ 2 * done.length → ∃ P, P.length ≤ 2 * A.length ∧ Ev (fun k => bitemporalref03_Points.l0 k A pts (done.length : Int)) P := by
  intro rest
  induction rest with
  | nil =>
    intro done pts e hp
    have hsl : A.length = done.length := by rw [e]; simp
    exact ⟨pts, by omega, Ev.step (fun k => by simp only [bitemporalref03_Points.l0]; rw [if_neg (by omega)]) (Ev.now pts)⟩
  | cons x rest ih =>
    intro done pts e hp
    have hsl : A.length = done.length + (rest.length + 1) := by rw [e]; simp
    have hg : rd_T38 A (done.length : Int) = x := by rw [e, rd38_mid]
    by_cases c : okP x
    · have n1 := ins_length pts x.f0
      have n2 := ins_length (ins pts x.f0) x.f1
      obtain ⟨P, h1, h2⟩ := ih (done ++ [x]) (ins (ins pts x.f0) x.f1) (by rw [e]; simp) (by simp; omega)
      rw [show (done ++ [x]).length = done.length + 1 by simp] at h2
      refine ⟨P, h1, Ev.step (f := fun k => (bitemporalref03_Insert.f k pts x.f0).bind fun a => (bitemporalref03_Insert.f k a x.f1).bind fun b => bitemporalref03_Points.l0 k A b ((done.length + 1 : Nat) : Int)) (fun k => by simp only [bitemporalref03_Points.l0]; rw [if_pos (by omega), if_pos (by omega), hg, rvalid_eq, Option.bind_some, decide_eq_true c, if_pos rfl, wrap_nat _ (by omega)]) ?_⟩
      exact Ev.bind (insEv pts _ (by omega)) (Ev.bind (insEv _ _ (by omega)) h2)
    · obtain ⟨P, h1, h2⟩ := ih (done ++ [x]) pts (by rw [e]; simp) (by simp; omega)
      rw [show (done ++ [x]).length = done.length + 1 by simp] at h2
      exact ⟨P, h1, Ev.step (fun k => by simp only [bitemporalref03_Points.l0]; rw [if_pos (by omega), if_pos (by omega), hg, rvalid_eq, Option.bind_some, decide_eq_false c, if_neg (by decide), wrap_nat _ (by omega)]) h2⟩
theorem pointsEv (A : List S38) (hl : A.length < 268435456) : ∃ P, P.length ≤ 2 * A.length ∧ Ev (fun k => bitemporalref03_Points.f k A) P := points_loop A hl A [] [] rfl (by simp)
theorem sub_loop (a b : List S38) (hla : a.length < 268435456) (hlb : b.length < 268435456) (hab : ∀ t, (∃ x ∈ a, holds x t) → ∃ x ∈ b, holds x t) (P : List Int) (hP : P.length < 4294967296) : ∀ (n i : Nat), P.length ≤ i + 1 + n → Ev (fun k => bitemporalref03_combined.l0 k 3 a b P [] ((i + 1 : Nat) : Int)) [] := by
  intro n
  induction n with
  | zero =>
    intro i hi
    exact Ev.step (fun k => by simp only [bitemporalref03_combined.l0]; rw [if_neg (by omega)]) (Ev.now [])
  | succ n ih =>
    intro i hi
    by_cases c : i + 1 < P.length
    · obtain ⟨x, h1, h2⟩ := containsEv a (rd P (i : Int)) (by omega)
      obtain ⟨y, h3, h4⟩ := containsEv b (rd P (i : Int)) (by omega)
      have hw : bitemporalref03_wanted.f 3 x y = some false := by
        unfold bitemporalref03_wanted.f
        cases x with
        | false => rfl
        | true => rw [h4.2 (hab _ (h2.1 rfl))]; rfl
      refine Ev.step (fun k => by simp only [bitemporalref03_combined.l0]; rw [if_pos (by omega), wrap_pred _ (by omega), if_pos (by omega), if_pos (by omega)]) ?_
      refine Ev.bind h1 (Ev.bind h3 ?_)
      refine Ev.congr (fun k => by rw [hw, Option.bind_some, if_neg (by decide), wrap_nat _ (by omega)]) ?_
      exact ih (i + 1) (by omega)
    · exact Ev.step (fun k => by simp only [bitemporalref03_combined.l0]; rw [if_neg (by omega)]) (Ev.now [])
theorem coversEv (a b : List S38) (hla : a.length < 16777216) (hlb : b.length < 16777216) (hab : ∀ t, (∃ x ∈ b, holds x t) → ∃ x ∈ a, holds x t) : Ev (fun k => bitemporalref03_Covers.f k a b) true := by
  have sub : Ev (fun k => bitemporalref03_combined.f k 3 b a) [] := by
    refine Ev.congr (f := fun k => (bitemporalref03_Points.f k (([⟨0, 1099511627776⟩] ++ b) ++ a)).bind fun t499 => (bitemporalref03_combined.l0 k 3 b a t499 [] 1)) (fun k => by
      unfold bitemporalref03_combined.f
      rw [if_pos (by simp), Option.bind_some, if_pos (by simp; omega), Option.bind_some, if_pos (by simp; omega)]; rfl) ?_
    obtain ⟨P, h1, h2⟩ := pointsEv (([⟨0, 1099511627776⟩] ++ b) ++ a) (by simp; omega)
    refine Ev.bind h2 ?_
    exact sub_loop b a (by omega) (by omega) hab P (by simp at h1; omega) P.length 0 (by omega)
  refine Ev.congr (fun k => by unfold bitemporalref03_Covers.f bitemporalref03_Subtract.f; rfl) ?_
  exact Ev.bind (g := fun k => (bitemporalref03_combined.f k 3 b a).bind fun t => some t) (Ev.bind sub (Ev.now [])) (Ev.now true)
/-! #### periods of levels: apart, or one in the other -/
theorem roverlaps (x y : S38) (hx : okP x) (hy : okP y) : bitemporalref01_Overlaps.f x.f0 x.f1 y.f0 y.f1 = some (decide (x.f0 < y.f1 ∧ y.f0 < x.f1)) := by
  unfold bitemporalref01_Overlaps.f
  rw [rvalid_eq, Option.bind_some, decide_eq_true hx, if_pos rfl, rvalid_eq, Option.bind_some, decide_eq_true hy, if_pos rfl]
  by_cases c : x.f0 < y.f1
  · rw [if_pos c]; congr 1; rw [decide_eq_decide]; exact ⟨fun h => ⟨c, h⟩, fun h => h.2⟩
  · rw [if_neg c]; congr 1; symm; rw [decide_eq_false_iff_not]; exact fun h => c h.1
theorem rcovers (x y : S38) (hx : okP x) (hy : okP y) : bitemporalref01_Covers.f x.f0 x.f1 y.f0 y.f1 = some (decide (x.f0 ≤ y.f0 ∧ y.f1 ≤ x.f1)) := by
  unfold bitemporalref01_Covers.f
  rw [rvalid_eq, Option.bind_some, decide_eq_true hx, if_pos rfl, rvalid_eq, Option.bind_some, decide_eq_true hy, if_pos rfl]
  by_cases c : x.f0 ≤ y.f0
  · rw [if_pos c]; congr 1; rw [decide_eq_decide]; exact ⟨fun h => ⟨c, h⟩, fun h => h.2⟩
  · rw [if_neg c]; congr 1; symm; rw [decide_eq_false_iff_not]; exact fun h => c h.1
theorem AlS.same {k : Int} {l : List S48} {A : List S38} (h : AlS k l FV A) {x y : S38} (hx : x ∈ A) (hy : y ∈ A) {t : Int} (h1 : x.f0 ≤ t ∧ t < x.f1) (h2 : y.f0 ≤ t ∧ t < y.f1) : x = y := by
  have hp := h.apart
  clear h
  induction A with
  | nil => cases hx
  | cons a r ih =>
    have h3 := List.pairwise_cons.1 hp
    rcases List.mem_cons.1 hx with rfl | hx1
    · rcases List.mem_cons.1 hy with rfl | hy1
      · rfl
      · have := h3.1 y hy1; omega
    · rcases List.mem_cons.1 hy with rfl | hy1
      · have := h3.1 x hx1; omega
      · exact ih hx1 hy1 h3.2
theorem AlS.touch {k : Int} {l : List S48} {A : List S38} (h : AlS k l FV A) {x y : S38} (hx : x ∈ A) (hy : y ∈ A) (e : x.f1 = y.f0) : False := by
  have hp := h.apart
  have ho := h.ok
  clear h
  induction A with
  | nil => cases hx
  | cons a r ih =>
    have h3 := List.pairwise_cons.1 hp
    rcases List.mem_cons.1 hx with rfl | hx1
    · rcases List.mem_cons.1 hy with rfl | hy1
      · have := ho _ List.mem_cons_self; omega
      · have := h3.1 y hy1; omega
    · rcases List.mem_cons.1 hy with rfl | hy1
      · have := h3.1 x hx1; have := ho x (List.mem_cons_of_mem _ hx1); have := ho y List.mem_cons_self; omega
      · exact ih hx1 hy1 h3.2 (fun z hz => ho z (List.mem_cons_of_mem _ hz))
theorem nested {l : List S48} (h : Valid l) {k k' : Int} (hk : k ≤ k') {x y : S38} (hx : x ∈ al k l) (hy : y ∈ al k' l) (ho : x.f0 < y.f1 ∧ y.f0 < x.f1) : x.f0 ≤ y.f0 ∧ y.f1 ≤ x.f1 := by
  have sx := al_spec k h
  have sy := al_spec k' h
  have ox := sx.ok x hx
  have oy := sy.ok y hy
  have inx : ∀ t, y.f0 ≤ t → t < y.f1 → ∃ z ∈ al k l, z.f0 ≤ t ∧ t < z.f1 := fun t h1 h2 => (sx.told t (by omega) (by omega)).2 (by have := (sy.told t (by omega) (by omega)).1 ⟨y, hy, h1, h2⟩; omega)
  constructor
  · apply Classical.byContradiction; intro c
    obtain ⟨z, hz, h1, h2⟩ := inx (x.f0 - 1) (by omega) (by omega)
    by_cases d : z.f1 = x.f0
    · exact sx.touch hz hx d
    · have e := sx.same hz hx (t := x.f0) ⟨by omega, by omega⟩ ⟨by omega, by omega⟩
      subst e; omega
  · apply Classical.byContradiction; intro c
    obtain ⟨z, hz, h1, h2⟩ := inx x.f1 (by omega) (by omega)
    by_cases d : x.f1 = z.f0
    · exact sx.touch hx hz d
    · have e := sx.same hz hx (t := x.f1 - 1) ⟨by omega, by omega⟩ ⟨by omega, by omega⟩
      subst e; omega
theorem layers_l1 (L : List S38) (hl : L.length ≤ 288) (hL : ∀ x ∈ L, ∀ y ∈ L, okP x ∧ okP y ∧ (x.f0 < y.f1 ∧ y.f0 < x.f1 → (x.f0 ≤ y.f0 ∧ y.f1 ≤ x.f1) ∨ (y.f0 ≤ x.f0 ∧ x.f1 ≤ y.f1))) (i : Nat) (hi : i < L.length) : ∀ (n j : Nat), i ≤ j + n → ∀ R, Ev (fun k => bitemporallaw04_StepsLayers.l0 k L ((i + 1 : Nat) : Int)) R → Ev (fun k => bitemporallaw04_StepsLayers.l1 k L (i : Int) (j : Int)) R := by
  intro n
  induction n with
  | zero =>
    intro j hj R h
    exact Ev.step (fun k => by simp only [bitemporallaw04_StepsLayers.l1]; rw [if_neg (by omega), wrap_nat _ (by omega)]) h
  | succ n ih =>
    intro j hj R h
    by_cases c : j < i
    · have mem : ∀ m : Nat, m < L.length → rd_T38 L (m : Int) ∈ L := fun m hm => by rw [rd38_nat, List.getD_eq_getElem?_getD, List.getElem?_eq_getElem hm, Option.getD_some]; exact List.getElem_mem hm
      obtain ⟨o1, o2, o3⟩ := hL _ (mem j (by omega)) _ (mem i hi)
      have next := ih (j + 1) (by omega) R h
      refine Ev.step (fun k => ?_) next
      simp only [bitemporallaw04_StepsLayers.l1]
      rw [if_pos (by omega), if_pos (by omega), if_pos (by omega), if_pos (by omega), if_pos (by omega), roverlaps _ _ o1 o2, Option.bind_some, wrap_nat _ (by omega)]
      by_cases d : (rd_T38 L (j : Int)).f0 < (rd_T38 L (i : Int)).f1 ∧ (rd_T38 L (i : Int)).f0 < (rd_T38 L (j : Int)).f1
      · rw [decide_eq_true d, if_pos rfl, rcovers _ _ o1 o2, Option.bind_some]
        by_cases e : (rd_T38 L (j : Int)).f0 ≤ (rd_T38 L (i : Int)).f0 ∧ (rd_T38 L (i : Int)).f1 ≤ (rd_T38 L (j : Int)).f1
        · rw [decide_eq_true e, if_pos rfl]
        · rw [decide_eq_false e, if_neg (by decide), rcovers _ _ o2 o1, Option.bind_some]
          rcases o3 d with h5 | h5
          · exact absurd h5 e
          · rw [decide_eq_true h5, if_pos rfl]
      · rw [decide_eq_false d, if_neg (by decide)]
    · exact Ev.step (fun k => by simp only [bitemporallaw04_StepsLayers.l1]; rw [if_neg (by omega), wrap_nat _ (by omega)]) h
theorem layers_l0 (L : List S38) (hl : L.length ≤ 288) (hL : ∀ x ∈ L, ∀ y ∈ L, okP x ∧ okP y ∧ (x.f0 < y.f1 ∧ y.f0 < x.f1 → (x.f0 ≤ y.f0 ∧ y.f1 ≤ x.f1) ∨ (y.f0 ≤ x.f0 ∧ x.f1 ≤ y.f1))) : ∀ (n i : Nat), L.length ≤ i + n → Ev (fun k => bitemporallaw04_StepsLayers.l0 k L (i : Int)) true := by
  intro n
  induction n with
  | zero => intro i hi; exact Ev.step (fun k => by simp only [bitemporallaw04_StepsLayers.l0]; rw [if_neg (by omega)]) awakeEv
  | succ n ih =>
    intro i hi
    by_cases c : i < L.length
    · refine Ev.step (fun k => by simp only [bitemporallaw04_StepsLayers.l0]; rw [if_pos (by omega)]) ?_
      exact layers_l1 L hl hL i c i 0 (by omega) true (ih (i + 1) (by omega))
    · exact Ev.step (fun k => by simp only [bitemporallaw04_StepsLayers.l0]; rw [if_neg (by omega)]) awakeEv
end Go.Proofs.Ytapfdhaohgkjeaa.Q
namespace Go.Proofs.Ytapfdhaohgkjeaa.Pure
open Go.RowKit Go.Proofs.YtapfdhaohgkjeaaW.PrintWords Go.Proofs.YtapfdhaohgkjeaaW.PrintMore Go.Proofs.Ytapfdhaohgkjeaa.XP Go.Proofs.Ytapfdhaohgkjeaa.Q
set_option linter.unusedVariables false
theorem StepsLayers (l : List S48) (t : Int) (ok : ∀ x ∈ l, ok48 x) (hl : l.length ≤ 9223372036854775807) (_w : (Lit.int .i64 t).wf = true) : ∃ k, bitemporallaw04_StepsLayers.f k l t = some true := by
  refine Ev.rounds ?_
  have idle : Ev (fun k => bitemporallaw04_StepsLayers.j0 k l t true) true := Ev.step (fun k => by simp only [bitemporallaw04_StepsLayers.j0]; rw [if_pos trivial]) awakeEv
  obtain ⟨f, h1, h2⟩ := fineEv l
  refine Ev.congr (fun k => by unfold bitemporallaw04_StepsLayers.f; rfl) (Ev.bind h1 ?_)
  cases f with
  | false => exact Ev.congr (fun k => if_neg (by decide)) idle
  | true =>
    obtain ⟨hn, hv⟩ := h2.1 rfl
    refine Ev.congr (fun k => if_pos rfl) ?_
    obtain ⟨g, h3, h4⟩ := greatEv l (by omega)
    refine Ev.bind h3 ?_
    by_cases c : g > 12
    · exact Ev.congr (fun k => if_pos c) idle
    · refine Ev.congr (fun k => if_neg c) ?_
      by_cases d : t > 12
      · exact Ev.congr (fun k => by rw [decide_eq_true d]) idle
      · refine Ev.congr (fun k => by rw [decide_eq_false d]) ?_
        have hw : wrap64 (t + 1) = t + 1 := by
          have := i64_of _w
          unfold I64 at this
          unfold wrap64; omega
        refine Ev.step (fun k => by simp only [bitemporallaw04_StepsLayers.j0]; rw [if_neg (by decide), hw]) ?_
        have len : ∀ k, (al k l).length ≤ 24 := fun k => by have := alG_length k l []; simp at this; unfold al; omega
        refine Ev.bind (salEv l t (by omega)) (Ev.bind (salEv l (t + 1) (by omega)) ?_)
        refine Ev.bind (coversEv (al t l) (al (t + 1) l) (by have := len t; omega) (by have := len (t + 1); omega) (fun u => ?_)) ?_
        · rintro ⟨x, hx, hok, h5, h6⟩
          have s1 := al_spec (t + 1) hv
          have s0 := al_spec t hv
          have ox := s1.ok x hx
          obtain ⟨y, hy, h7⟩ := (s0.told u (by omega) (by omega)).2 (by have := (s1.told u (by omega) (by omega)).1 ⟨x, hx, h5, h6⟩; omega)
          exact ⟨y, hy, s0.ok y hy, h7⟩
        · refine Ev.congr (fun k => if_pos rfl) ?_
          obtain ⟨L, h5, _, h7, h8⟩ := levelsEv hv hn (N := 12) (Nat.le_refl _) (fun s hs => by have := h4 s hs; omega)
          have hL : L.length ≤ 288 := by rw [h8.length_eq]; exact cat_len l hn 12
          refine Ev.congr (fun k => by rw [h5, Option.bind_some, if_neg (by omega)]) ?_
          refine layers_l0 L hL (fun x hx y hy => ?_) L.length 0 (by omega)
          have mem : ∀ z ∈ L, ∃ k, z ∈ al k l := fun z hz => by
            have := h8.mem_iff.1 hz
            unfold cat at this
            obtain ⟨k, _, hk⟩ := List.mem_flatMap.1 this
            exact ⟨_, hk⟩
          obtain ⟨k, hk⟩ := mem x hx
          obtain ⟨k', hk'⟩ := mem y hy
          refine ⟨(al_spec k hv).ok x hk, (al_spec k' hv).ok y hk', fun ho => ?_⟩
          by_cases e : k ≤ k'
          · exact Or.inl (nested hv e hk hk' ho)
          · exact Or.inr (nested hv (by omega) hk' hk ⟨ho.2, ho.1⟩)
end Go.Proofs.Ytapfdhaohgkjeaa.Pure

/- Step functions, plainly: the value at an instant, valid lists, and that a valid list is told by its values. -/
import Derived.Test.YtapfdhaohgkjeaaXPx0
namespace Go.Proofs.Ytapfdhaohgkjeaa.Q
open Go.RowKit Go.Proofs.YtapfdhaohgkjeaaW.PrintWords Go.Proofs.Ytapfdhaohgkjeaa.XP
/-- One past the last instant. -/
abbrev FV : Int := 1099511627776
/-- The value, from n on. -/
def vFrom (t : Int) (n : Int) (l : List S48) : Int := l.foldl (fun n s => if s.f0 ≤ t then s.f1 else n) n
def vAt (l : List S48) (t : Int) : Int := vFrom t 0 l
theorem vFrom_nil (t n : Int) : vFrom t n [] = n := rfl
theorem vFrom_cons (t n : Int) (s : S48) (r : List S48) : vFrom t n (s :: r) = vFrom t (if s.f0 ≤ t then s.f1 else n) r := rfl
theorem vFrom_snoc (t n : Int) (l : List S48) (s : S48) : vFrom t n (l ++ [s]) = if s.f0 ≤ t then s.f1 else vFrom t n l := by
  unfold vFrom; rw [List.foldl_append]; rfl
theorem vAt_snoc (l : List S48) (s : S48) (t : Int) : vAt (l ++ [s]) t = if s.f0 ≤ t then s.f1 else vAt l t := vFrom_snoc _ _ _ _
theorem vFrom_late (t n : Int) : ∀ l : List S48, (∀ s ∈ l, t < s.f0) → vFrom t n l = n
  | [], _ => rfl
  | s :: r, h => by
    have := h s List.mem_cons_self
    rw [vFrom_cons, if_neg (by omega), vFrom_late t n r (fun x hx => h x (List.mem_cons_of_mem _ hx))]
/-- Ascending, and neighbours differ. -/
def Asc : List S48 → Prop
  | [] => True
  | [_] => True
  | a :: b :: r => a.f0 < b.f0 ∧ a.f1 ≠ b.f1 ∧ Asc (b :: r)
theorem Asc.tail {a : S48} {r : List S48} (h : Asc (a :: r)) : Asc r := by
  cases r with
  | nil => trivial
  | cons b r => exact h.2.2
theorem Asc.gt {a : S48} : ∀ {r : List S48}, Asc (a :: r) → ∀ s ∈ r, a.f0 < s.f0
  | [], _, s, hs => by cases hs
  | b :: r, h, s, hs => by
    rcases List.mem_cons.1 hs with rfl | hs
    · exact h.1
    · have := Asc.gt h.2.2 s hs
      have := h.1
      omega
theorem Asc.uniq : ∀ (l l' : List S48) (p : Int), Asc l → Asc l' → (∀ s, l.head? = some s → s.f0 = p) → (∀ s, l'.head? = some s → s.f0 = p) → l ≠ [] → l' ≠ [] →
    (∀ s ∈ l, s.f0 < FV) → (∀ s ∈ l', s.f0 < FV) → (∀ t n, p ≤ t → t < FV → vFrom t n l = vFrom t n l') → l = l'
  | [], _, _, _, _, _, _, h, _, _, _, _ => absurd rfl h
  | _ :: _, [], _, _, _, _, _, _, h, _, _, _ => absurd rfl h
  | a :: r, a' :: r', p, hA, hA', h0, h0', _, _, hF, hF', hv => by
    have e0 : a.f0 = p := h0 a rfl
    have e0' : a'.f0 = p := h0' a' rfl
    have hp : p < FV := by have := hF a List.mem_cons_self; omega
    have g := hA.gt
    have g' := hA'.gt
    have ea : a.f1 = a'.f1 := by
      have := hv p 0 (Int.le_refl _) hp
      rw [vFrom_cons, vFrom_cons, if_pos (by omega), if_pos (by omega), vFrom_late _ _ _ (fun s hs => by have := g s hs; omega), vFrom_late _ _ _ (fun s hs => by have := g' s hs; omega)] at this
      exact this
    have eaa : a = a' := by cases a; cases a'; simp_all
    subst eaa
    have tl : ∀ t n, p ≤ t → t < FV → vFrom t n r = vFrom t n r' ∨ True := fun _ _ _ _ => Or.inr trivial
    cases r with
    | nil =>
      cases r' with
      | nil => rfl
      | cons b r' =>
        exfalso
        have hb := g' b List.mem_cons_self
        have := hv b.f0 0 (by omega) (hF' b (List.mem_cons_of_mem _ List.mem_cons_self))
        rw [vFrom_cons, vFrom_cons, if_pos (by omega), vFrom_nil, vFrom_cons, if_pos (Int.le_refl _), vFrom_late _ _ _ (fun s hs => hA'.tail.gt s hs)] at this
        exact hA'.2.1 this
    | cons b r =>
      have hb := g b List.mem_cons_self
      have hbF := hF b (List.mem_cons_of_mem _ List.mem_cons_self)
      cases r' with
      | nil =>
        exfalso
        have := hv b.f0 0 (by omega) hbF
        simp only [vFrom_cons, vFrom_nil, Int.le_refl, if_true, show a.f0 ≤ b.f0 from by omega] at this
        rw [vFrom_late _ _ _ (fun s hs => hA.tail.gt s hs)] at this
        exact hA.2.1 this.symm
      | cons b' r' =>
        have hb' := g' b' List.mem_cons_self
        have hbF' := hF' b' (List.mem_cons_of_mem _ List.mem_cons_self)
        have lt : ¬ b.f0 < b'.f0 := fun hlt => by
          have := hv b.f0 0 (by omega) hbF
          rw [vFrom_cons, vFrom_cons (r := b' :: r'), if_pos (by omega), vFrom_cons, if_pos (Int.le_refl _), vFrom_late _ _ r (fun s hs => hA.tail.gt s hs), vFrom_late _ _ (b' :: r') (fun s hs => by
            rcases List.mem_cons.1 hs with rfl | hs
            · exact hlt
            · have := hA'.tail.gt s hs; omega)] at this
          exact hA.2.1 this.symm
        have lt' : ¬ b'.f0 < b.f0 := fun hlt => by
          have := hv b'.f0 0 (by omega) hbF'
          rw [vFrom_cons, vFrom_cons (r := b' :: r'), if_pos (by omega), vFrom_cons (r := r'), if_pos (Int.le_refl _), vFrom_late _ _ r' (fun s hs => hA'.tail.gt s hs), vFrom_late _ _ (b :: r) (fun s hs => by
            rcases List.mem_cons.1 hs with rfl | hs
            · exact hlt
            · have := hA.tail.gt s hs; omega)] at this
          exact hA'.2.1 this
        have ebb : b'.f0 = b.f0 := by omega
        have := Asc.uniq (b :: r) (b' :: r') b.f0 hA.tail hA'.tail (fun s hs => by cases hs; rfl) (fun s hs => by cases hs; exact ebb) (by simp) (by simp) (fun s hs => hF s (List.mem_cons_of_mem _ hs)) (fun s hs => hF' s (List.mem_cons_of_mem _ hs)) (fun t n h1 h2 => by
          have := hv t 0 (by omega) h2
          rw [vFrom_cons, vFrom_cons (r := b' :: r'), if_pos (by omega)] at this
          rw [vFrom_cons, vFrom_cons, if_pos h1] at this ⊢
          rw [if_pos (by omega)] at this ⊢
          exact this)
        rw [this]
/-- A valid list of steps. -/
structure Valid (l : List S48) : Prop where
  asc : Asc l
  head : ∃ n r, l = ⟨0, n⟩ :: r
  lim : ∀ s ∈ l, s.f0 < FV
theorem Asc.length : ∀ {l : List S48} {a : S48} {r : List S48}, l = a :: r → Asc l → (∀ s ∈ l, s.f0 < FV) → (l.length : Int) ≤ FV - a.f0
  | [], _, _, h, _, _ => by cases h
  | [b], a, r, h, _, hF => by
    have := hF b List.mem_cons_self
    cases h
    show (1 : Int) ≤ _
    omega
  | b :: c :: r', a, r, h, hA, hF => by
    have := Asc.length (l := c :: r') rfl hA.tail (fun s hs => hF s (List.mem_cons_of_mem _ hs))
    have := hA.1
    cases h
    simp only [List.length_cons] at *
    omega
theorem Valid.length {l : List S48} (h : Valid l) : l.length ≤ 1099511627776 := by
  obtain ⟨n, r, e⟩ := h.head
  have := Asc.length e h.asc h.lim
  simp only [FV] at this
  omega
theorem Valid.uniq {l l' : List S48} (h : Valid l) (h' : Valid l') (hv : ∀ t, 0 ≤ t → t < FV → vAt l t = vAt l' t) : l = l' := by
  obtain ⟨n, r, rfl⟩ := h.head
  obtain ⟨n', r', rfl⟩ := h'.head
  refine Asc.uniq _ _ 0 h.asc h'.asc (fun s hs => by cases hs; rfl) (fun s hs => by cases hs; rfl) (by simp) (by simp) h.lim h'.lim (fun t m h0 h1 => ?_)
  have := hv t h0 h1
  unfold vAt at this
  rw [vFrom_cons, vFrom_cons, if_pos (by exact h0)] at this ⊢
  rw [if_pos (by exact h0)] at this ⊢
  exact this
theorem Asc.snoc : ∀ {l : List S48} {s : S48}, Asc l → (∀ a, l.getLast? = some a → a.f0 < s.f0 ∧ a.f1 ≠ s.f1) → Asc (l ++ [s])
  | [], _, _, _ => trivial
  | [a], s, _, h => ⟨(h a rfl).1, (h a rfl).2, trivial⟩
  | a :: b :: r, s, h, hl => ⟨h.1, h.2.1, Asc.snoc (l := b :: r) h.2.2 (fun x hx => hl x (by rw [List.getLast?_cons_cons]; exact hx))⟩
theorem Asc.le_last : ∀ {l : List S48} {a : S48}, Asc l → l.getLast? = some a → ∀ s ∈ l, s.f0 ≤ a.f0
  | [], _, _, h, _, _ => by cases h
  | [b], a, _, h, s, hs => by
    have h1 : b = a := by simpa using h
    have h2 : s = b := by simpa using hs
    rw [h2, h1]; exact Int.le_refl _
  | b :: c :: r, a, hA, h, s, hs => by
    rw [List.getLast?_cons_cons] at h
    rcases List.mem_cons.1 hs with rfl | hs
    · have := Asc.le_last hA.2.2 h c List.mem_cons_self
      have := hA.1; omega
    · exact Asc.le_last hA.2.2 h s hs
theorem vAt_last {l : List S48} {a : S48} {t : Int} (h : l.getLast? = some a) (ht : a.f0 ≤ t) : vAt l t = a.f1 := by
  obtain ⟨r, rfl⟩ := List.getLast?_eq_some_iff.1 h
  rw [vAt_snoc, if_pos ht]
/-- A step is put behind, unless the value stays. -/
def putL (l : List S48) (p n : Int) : List S48 := match l.getLast? with
  | none => l ++ [⟨p, n⟩]
  | some a => if a.f1 = n then l else l ++ [⟨p, n⟩]
theorem putL_at {l : List S48} {p n : Int} (h : ∀ a, l.getLast? = some a → a.f0 ≤ p) (t : Int) : vAt (putL l p n) t = if p ≤ t then n else vAt l t := by
  unfold putL
  cases e : l.getLast? with
  | none => exact vAt_snoc _ _ _
  | some a =>
    simp only
    by_cases c : a.f1 = n
    · rw [if_pos c]
      by_cases ht : p ≤ t
      · rw [if_pos ht, vAt_last e (by have := h a e; omega), c]
      · rw [if_neg ht]
    · rw [if_neg c]; exact vAt_snoc _ _ _
theorem putL_last {l : List S48} {p n : Int} : ∀ a, (putL l p n).getLast? = some a → a.f1 = n ∧ (a.f0 = p ∨ l.getLast? = some a) := by
  intro a ha
  unfold putL at ha
  cases e : l.getLast? with
  | none => rw [e] at ha; simp at ha; subst ha; exact ⟨rfl, Or.inl rfl⟩
  | some b =>
    rw [e] at ha
    simp only at ha
    by_cases c : b.f1 = n
    · rw [if_pos c, e] at ha; cases ha; exact ⟨c, Or.inr rfl⟩
    · rw [if_neg c] at ha; simp at ha; subst ha; exact ⟨rfl, Or.inl rfl⟩
theorem putL_asc {l : List S48} {p n : Int} (hA : Asc l) (h : ∀ a, l.getLast? = some a → a.f0 < p) : Asc (putL l p n) := by
  unfold putL
  cases e : l.getLast? with
  | none => exact hA.snoc (fun a ha => by rw [e] at ha; cases ha)
  | some a =>
    simp only
    by_cases c : a.f1 = n
    · rw [if_pos c]; exact hA
    · rw [if_neg c]; exact hA.snoc (fun b hb => by rw [e] at hb; cases hb; exact ⟨h a e, c⟩)
theorem putL_mem {l : List S48} {p n : Int} {s : S48} (h : s ∈ putL l p n) : s ∈ l ∨ s = ⟨p, n⟩ := by
  unfold putL at h
  cases e : l.getLast? with
  | none => rw [e] at h; simpa using h
  | some a =>
    rw [e] at h
    simp only at h
    by_cases c : a.f1 = n
    · rw [if_pos c] at h; exact Or.inl h
    · rw [if_neg c] at h; simpa using h
theorem putL_head {l : List S48} {p n : Int} {s : S48} {r : List S48} (h : l = s :: r) : ∃ r', putL l p n = s :: r' := by
  subst h
  unfold putL
  split
  · exact ⟨r ++ [⟨p, n⟩], rfl⟩
  · split
    · exact ⟨r, rfl⟩
    · exact ⟨r ++ [⟨p, n⟩], rfl⟩
/-- The steps at ascending places. -/
def build (g : Int → Int) (ps : List Int) : List S48 := ps.foldl (fun o p => putL o p (g p)) []
theorem build_snoc (g : Int → Int) (ps : List Int) (p : Int) : build g (ps ++ [p]) = putL (build g ps) p (g p) := by
  unfold build; rw [List.foldl_append]; rfl
structure Built (g : Int → Int) (ps : List Int) (l : List S48) : Prop where
  asc : Asc l
  mem : ∀ s ∈ l, s.f0 ∈ ps
  at_ : ∀ t p, p ∈ ps → p ≤ t → (∀ q ∈ ps, q ≤ t → q ≤ p) → vAt l t = g p
  first : ∀ p r, ps = p :: r → ∃ r', l = ⟨p, g p⟩ :: r'
theorem Built.nil (g : Int → Int) : Built g [] [] := ⟨trivial, (fun _ h => by cases h), (fun _ _ h => by cases h), (fun _ _ h => by cases h)⟩
theorem Built.put {g : Int → Int} {ps : List Int} {l : List S48} (h : Built g ps l) {p : Int} (hp : ∀ q ∈ ps, q < p) : Built g (ps ++ [p]) (putL l p (g p)) := by
  have hl : ∀ a, l.getLast? = some a → a.f0 < p := fun a ha => hp _ (h.mem a (List.mem_of_getLast? ha))
  refine ⟨putL_asc h.asc hl, fun s hs => ?_, fun t q hq hqt hmax => ?_, fun q r e => ?_⟩
  · rcases putL_mem hs with hs | rfl
    · exact List.mem_append_left _ (h.mem s hs)
    · simp
  · rw [putL_at (fun a ha => by have := hl a ha; omega)]
    by_cases c : p ≤ t
    · rw [if_pos c]
      have h1 := hmax p (by simp) c
      rcases List.mem_append.1 hq with hq | hq
      · have := hp q hq; omega
      · rw [List.mem_singleton.1 hq]
    · rw [if_neg c]
      rcases List.mem_append.1 hq with hq | hq
      · exact h.at_ t q hq hqt (fun x hx hxt => hmax x (List.mem_append_left _ hx) hxt)
      · have := List.mem_singleton.1 hq; omega
  · cases ps with
    | nil =>
      have : p = q := by simpa using congrArg List.head? e
      subst this
      cases l with
      | nil => exact ⟨[], rfl⟩
      | cons s r => have := h.mem s List.mem_cons_self; cases this
    | cons x xs =>
      have : x = q := by simpa using congrArg List.head? e
      subst this
      obtain ⟨r', hr⟩ := h.first x xs rfl
      exact putL_head hr
theorem Built.valid {g : Int → Int} {ps : List Int} {l : List S48} (h : Built g ps l) {r : List Int} (h0 : ps = 0 :: r) (hF : ∀ p ∈ ps, p < FV) : Valid l := by
  obtain ⟨r', hr⟩ := h.first 0 r h0
  exact ⟨h.asc, ⟨g 0, r', hr⟩, fun s hs => hF _ (h.mem s hs)⟩
/-- The greatest place up to t. -/
theorem greatest : ∀ (ps : List Int) (t : Int), (∃ p ∈ ps, p ≤ t) → ∃ p, p ∈ ps ∧ p ≤ t ∧ ∀ q ∈ ps, q ≤ t → q ≤ p
  | [], _, ⟨p, h, _⟩ => by cases h
  | a :: r, t, ⟨p, hp, hpt⟩ => by
    by_cases c : ∃ q ∈ r, q ≤ t
    · obtain ⟨q, hq, hqt, hm⟩ := greatest r t c
      by_cases ca : a ≤ t ∧ q < a
      · refine ⟨a, List.mem_cons_self, ca.1, fun x hx hxt => ?_⟩
        rcases List.mem_cons.1 hx with rfl | hx
        · exact Int.le_refl _
        · have := hm x hx hxt; omega
      · refine ⟨q, List.mem_cons_of_mem _ hq, hqt, fun x hx hxt => ?_⟩
        rcases List.mem_cons.1 hx with rfl | hx
        · omega
        · exact hm x hx hxt
    · rcases List.mem_cons.1 hp with rfl | hp
      · refine ⟨p, List.mem_cons_self, hpt, fun x hx hxt => ?_⟩
        rcases List.mem_cons.1 hx with rfl | hx
        · exact Int.le_refl _
        · exact absurd ⟨x, hx, hxt⟩ c
      · exact absurd ⟨p, hp, hpt⟩ c
theorem Built.value {g h : Int → Int} {ps : List Int} {l : List S48} (b : Built g ps l) {r : List Int} (h0 : ps = 0 :: r) (t : Int) (ht : 0 ≤ t) (hgh : ∀ p ∈ ps, p ≤ t → (∀ q ∈ ps, q ≤ t → q ≤ p) → g p = h t) : vAt l t = h t := by
  obtain ⟨p, hp, hpt, hm⟩ := greatest ps t ⟨0, by rw [h0]; exact List.mem_cons_self, ht⟩
  rw [b.at_ t p hp hpt hm, hgh p hp hpt hm]
end Go.Proofs.Ytapfdhaohgkjeaa.Q

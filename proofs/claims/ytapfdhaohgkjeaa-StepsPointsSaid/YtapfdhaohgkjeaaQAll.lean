/- Step functions, plainly: the value at an instant, valid lists, and that a valid list is told by its values. -/
import Derived.Test.YtapfdhaohgkjeaaHAll
import Derived.Test.YtapfdhaohgkjeaaXPx4
import Derived.Test.YtapfdhaohgkjeaaXPx11
import Derived.Test.YtapfdhaohgkjeaaXPx9
import Derived.Test.YtapfdhaohgkjeaaXPx12
import Derived.Test.YtapfdhaohgkjeaaXPx23
section
namespace Go.Proofs.Ytapfdhaohgkjeaa.Q
open Go.RowKit Go.Proofs.YtapfdhaohgkjeaaW.PrintWords Go.Proofs.Ytapfdhaohgkjeaa.XP
/-- One past the last instant. -/
abbrev FV : Int := 1099511627776
/-- The value, from n on. -/
def vFrom (t : Int) (n : Int) (l : List S48) : Int := l.foldl (fun n s => if s.f0 ≤ t then s.f1 else n) n
def vAt (l : List S48) (t : Int) : Int := vFrom t 0 l
theorem vFrom_nil (t n : Int) : vFrom t n [] = n := rfl
theorem vFrom_cons (t n : Int) (s : S48) (r : List S48) : vFrom t n (s :: r) = vFrom t (if s.f0 ≤ t then s.f1 else n) r := rfl
theorem vFrom_snoc (t n : Int) (l : List S48) (s : S48) : vFrom t n (l ++ [s]) = if s.f0 ≤ t then s.f1 else vFrom t n l := by
  unfold vFrom; rw [List.foldl_append]; rfl
theorem vAt_snoc (l : List S48) (s : S48) (t : Int) : vAt (l ++ [s]) t = if s.f0 ≤ t then s.f1 else vAt l t := vFrom_snoc _ _ _ _
theorem vFrom_late (t n : Int) : ∀ l : List S48, (∀ s ∈ l, t < s.f0) → vFrom t n l = n
  | [], _ => rfl
  | s :: r, h => by
    have := h s List.mem_cons_self
    rw [vFrom_cons, if_neg (by omega), vFrom_late t n r (fun x hx => h x (List.mem_cons_of_mem _ hx))]
/-- Ascending, and neighbours differ. -/
def Asc : List S48 → Prop
  | [] => True
  | [_] => True
  | a :: b :: r => a.f0 < b.f0 ∧ a.f1 ≠ b.f1 ∧ Asc (b :: r)
theorem Asc.tail {a : S48} {r : List S48} (h : Asc (a :: r)) : Asc r := by
  cases r with
  | nil => trivial
  | cons b r => exact h.2.2
theorem Asc.gt {a : S48} : ∀ {r : List S48}, Asc (a :: r) → ∀ s ∈ r, a.f0 < s.f0
  | [], _, s, hs => by cases hs
  | b :: r, h, s, hs => by
    rcases List.mem_cons.1 hs with rfl | hs
    · exact h.1
    · have := Asc.gt h.2.2 s hs
      have := h.1
      omega
theorem Asc.uniq : ∀ (l l' : List S48) (p : Int), Asc l → Asc l' → (∀ s, l.head? = some s → s.f0 = p) → (∀ s, l'.head? = some s → s.f0 = p) → l ≠ [] → l' ≠ [] →
    (∀ s ∈ l, s.f0 < FV) → (∀ s ∈ l', s.f0 < FV) → (∀ t n, p ≤ t → t < FV → vFrom t n l = vFrom t n l') → l = l'
  | [], _, _, _, _, _, _, h, _, _, _, _ => absurd rfl h
  | _ :: _, [], _, _, _, _, _, _, h, _, _, _ => absurd rfl h
  | a :: r, a' :: r', p, hA, hA', h0, h0', _, _, hF, hF', hv => by
    have e0 : a.f0 = p := h0 a rfl
    have e0' : a'.f0 = p := h0' a' rfl
    have hp : p < FV := by have := hF a List.mem_cons_self; omega
    have g := hA.gt
    have g' := hA'.gt
    have ea : a.f1 = a'.f1 := by
      have := hv p 0 (Int.le_refl _) hp
      rw [vFrom_cons, vFrom_cons, if_pos (by omega), if_pos (by omega), vFrom_late _ _ _ (fun s hs => by have := g s hs; omega), vFrom_late _ _ _ (fun s hs => by have := g' s hs; omega)] at this
      exact this
    have eaa : a = a' := by cases a; cases a'; simp_all
    subst eaa
    have tl : ∀ t n, p ≤ t → t < FV → vFrom t n r = vFrom t n r' ∨ True := fun _ _ _ _ => Or.inr trivial
    cases r with
    | nil =>
      cases r' with
      | nil => rfl
      | cons b r' =>
        exfalso
        have hb := g' b List.mem_cons_self
        have := hv b.f0 0 (by omega) (hF' b (List.mem_cons_of_mem _ List.mem_cons_self))
        rw [vFrom_cons, vFrom_cons, if_pos (by omega), vFrom_nil, vFrom_cons, if_pos (Int.le_refl _), vFrom_late _ _ _ (fun s hs => hA'.tail.gt s hs)] at this
        exact hA'.2.1 this
    | cons b r =>
      have hb := g b List.mem_cons_self
      have hbF := hF b (List.mem_cons_of_mem _ List.mem_cons_self)
      cases r' with
      | nil =>
        exfalso
        have := hv b.f0 0 (by omega) hbF
        simp only [vFrom_cons, vFrom_nil, Int.le_refl, if_true, show a.f0 ≤ b.f0 from by omega] at this
        rw [vFrom_late _ _ _ (fun s hs => hA.tail.gt s hs)] at this
        exact hA.2.1 this.symm
      | cons b' r' =>
        have hb' := g' b' List.mem_cons_self
        have hbF' := hF' b' (List.mem_cons_of_mem _ List.mem_cons_self)
        have lt : ¬ b.f0 < b'.f0 := fun hlt => by
          have := hv b.f0 0 (by omega) hbF
          rw [vFrom_cons, vFrom_cons (r := b' :: r'), if_pos (by omega), vFrom_cons, if_pos (Int.le_refl _), vFrom_late _ _ r (fun s hs => hA.tail.gt s hs), vFrom_late _ _ (b' :: r') (fun s hs => by
            rcases List.mem_cons.1 hs with rfl | hs
            · exact hlt
            · have := hA'.tail.gt s hs; omega)] at this
          exact hA.2.1 this.symm
        have lt' : ¬ b'.f0 < b.f0 := fun hlt => by
          have := hv b'.f0 0 (by omega) hbF'
          rw [vFrom_cons, vFrom_cons (r := b' :: r'), if_pos (by omega), vFrom_cons (r := r'), if_pos (Int.le_refl _), vFrom_late _ _ r' (fun s hs => hA'.tail.gt s hs), vFrom_late _ _ (b :: r) (fun s hs => by
            rcases List.mem_cons.1 hs with rfl | hs
            · exact hlt
            · have := hA.tail.gt s hs; omega)] at this
          exact hA'.2.1 this
        have ebb : b'.f0 = b.f0 := by omega
        have := Asc.uniq (b :: r) (b' :: r') b.f0 hA.tail hA'.tail (fun s hs => by cases hs; rfl) (fun s hs => by cases hs; exact ebb) (by simp) (by simp) (fun s hs => hF s (List.mem_cons_of_mem _ hs)) (fun s hs => hF' s (List.mem_cons_of_mem _ hs)) (fun t n h1 h2 => by
          have := hv t 0 (by omega) h2
          rw [vFrom_cons, vFrom_cons (r := b' :: r'), if_pos (by omega)] at this
          rw [vFrom_cons, vFrom_cons, if_pos h1] at this ⊢
          rw [if_pos (by omega)] at this ⊢
          exact this)
        rw [this]
/-- A valid list of steps. -/
structure Valid (l : List S48) : Prop where
  asc : Asc l
  head : ∃ n r, l = ⟨0, n⟩ :: r
  lim : ∀ s ∈ l, s.f0 < FV
theorem Asc.length : ∀ {l : List S48} {a : S48} {r : List S48}, l = a :: r → Asc l → (∀ s ∈ l, s.f0 < FV) → (l.length : Int) ≤ FV - a.f0
  | [], _, _, h, _, _ => by cases h
  | [b], a, r, h, _, hF => by
    have := hF b List.mem_cons_self
    cases h
    show (1 : Int) ≤ _
    omega
  | b :: c :: r', a, r, h, hA, hF => by
    have := Asc.length (l := c :: r') rfl hA.tail (fun s hs => hF s (List.mem_cons_of_mem _ hs))
    have := hA.1
    cases h
    simp only [List.length_cons] at *
    omega
theorem Valid.length {l : List S48} (h : Valid l) : l.length ≤ 1099511627776 := by
  obtain ⟨n, r, e⟩ := h.head
  have := Asc.length e h.asc h.lim
  simp only [FV] at this
  omega
theorem Valid.uniq {l l' : List S48} (h : Valid l) (h' : Valid l') (hv : ∀ t, 0 ≤ t → t < FV → vAt l t = vAt l' t) : l = l' := by
  obtain ⟨n, r, rfl⟩ := h.head
  obtain ⟨n', r', rfl⟩ := h'.head
  refine Asc.uniq _ _ 0 h.asc h'.asc (fun s hs => by cases hs; rfl) (fun s hs => by cases hs; rfl) (by simp) (by simp) h.lim h'.lim (fun t m h0 h1 => ?_)
  have := hv t h0 h1
  unfold vAt at this
  rw [vFrom_cons, vFrom_cons, if_pos (by exact h0)] at this ⊢
  rw [if_pos (by exact h0)] at this ⊢
  exact this
theorem Asc.snoc : ∀ {l : List S48} {s : S48}, Asc l → (∀ a, l.getLast? = some a → a.f0 < s.f0 ∧ a.f1 ≠ s.f1) → Asc (l ++ [s])
  | [], _, _, _ => trivial
  | [a], s, _, h => ⟨(h a rfl).1, (h a rfl).2, trivial⟩
  | a :: b :: r, s, h, hl => ⟨h.1, h.2.1, Asc.snoc (l := b :: r) h.2.2 (fun x hx => hl x (by rw [List.getLast?_cons_cons]; exact hx))⟩
theorem vAt_last {l : List S48} {a : S48} {t : Int} (h : l.getLast? = some a) (ht : a.f0 ≤ t) : vAt l t = a.f1 := by
  obtain ⟨r, rfl⟩ := List.getLast?_eq_some_iff.1 h
  rw [vAt_snoc, if_pos ht]
/-- A step is put behind, unless the value stays. -/
def putL (l : List S48) (p n : Int) : List S48 := match l.getLast? with
  | none => l ++ [⟨p, n⟩]
  | some a => if a.f1 = n then l else l ++ [⟨p, n⟩]
theorem putL_at {l : List S48} {p n : Int} (h : ∀ a, l.getLast? = some a → a.f0 ≤ p) (t : Int) : vAt (putL l p n) t = if p ≤ t then n else vAt l t := by
  unfold putL
  cases e : l.getLast? with
  | none => exact vAt_snoc _ _ _
  | some a =>
    simp only
    by_cases c : a.f1 = n
    · rw [if_pos c]
      by_cases ht : p ≤ t
      · rw [if_pos ht, vAt_last e (by have := h a e; omega), c]
      · rw [if_neg ht]
    · rw [if_neg c]; exact vAt_snoc _ _ _
theorem putL_asc {l : List S48} {p n : Int} (hA : Asc l) (h : ∀ a, l.getLast? = some a → a.f0 < p) : Asc (putL l p n) := by
  unfold putL
  cases e : l.getLast? with
  | none => exact hA.snoc (fun a ha => by rw [e] at ha; cases ha)
  | some a =>
    simp only
    by_cases c : a.f1 = n
    · rw [if_pos c]; exact hA
    · rw [if_neg c]; exact hA.snoc (fun b hb => by rw [e] at hb; cases hb; exact ⟨h a e, c⟩)
theorem putL_mem {l : List S48} {p n : Int} {s : S48} (h : s ∈ putL l p n) : s ∈ l ∨ s = ⟨p, n⟩ := by
  unfold putL at h
  cases e : l.getLast? with
  | none => rw [e] at h; simpa using h
  | some a =>
    rw [e] at h
    simp only at h
    by_cases c : a.f1 = n
    · rw [if_pos c] at h; exact Or.inl h
    · rw [if_neg c] at h; simpa using h
theorem putL_head {l : List S48} {p n : Int} {s : S48} {r : List S48} (h : l = s :: r) : ∃ r', putL l p n = s :: r' := by
  subst h
  unfold putL
  split
  · exact ⟨r ++ [⟨p, n⟩], rfl⟩
  · split
    · exact ⟨r, rfl⟩
    · exact ⟨r ++ [⟨p, n⟩], rfl⟩
/-- The steps at ascending places. -/
def build (g : Int → Int) (ps : List Int) : List S48 := ps.foldl (fun o p => putL o p (g p)) []
structure Built (g : Int → Int) (ps : List Int) (l : List S48) : Prop where
  asc : Asc l
  mem : ∀ s ∈ l, s.f0 ∈ ps
  at_ : ∀ t p, p ∈ ps → p ≤ t → (∀ q ∈ ps, q ≤ t → q ≤ p) → vAt l t = g p
  first : ∀ p r, ps = p :: r → ∃ r', l = ⟨p, g p⟩ :: r'
theorem Built.nil (g : Int → Int) : Built g [] [] := ⟨trivial, (fun _ h => by cases h), (fun _ _ h => by cases h), (fun _ _ h => by cases h)⟩
theorem Built.put {g : Int → Int} {ps : List Int} {l : List S48} (h : Built g ps l) {p : Int} (hp : ∀ q ∈ ps, q < p) : Built g (ps ++ [p]) (putL l p (g p)) := by
  have hl : ∀ a, l.getLast? = some a → a.f0 < p := fun a ha => hp _ (h.mem a (List.mem_of_getLast? ha))
  refine ⟨putL_asc h.asc hl, fun s hs => ?_, fun t q hq hqt hmax => ?_, fun q r e => ?_⟩
  · rcases putL_mem hs with hs | rfl
    · exact List.mem_append_left _ (h.mem s hs)
    · simp
  · rw [putL_at (fun a ha => by have := hl a ha; omega)]
    by_cases c : p ≤ t
    · rw [if_pos c]
      have h1 := hmax p (by simp) c
      rcases List.mem_append.1 hq with hq | hq
      · have := hp q hq; omega
      · rw [List.mem_singleton.1 hq]
    · rw [if_neg c]
      rcases List.mem_append.1 hq with hq | hq
      · exact h.at_ t q hq hqt (fun x hx hxt => hmax x (List.mem_append_left _ hx) hxt)
      · have := List.mem_singleton.1 hq; omega
  · cases ps with
    | nil =>
      have : p = q := by simpa using congrArg List.head? e
      subst this
      cases l with
      | nil => exact ⟨[], rfl⟩
      | cons s r => have := h.mem s List.mem_cons_self; cases this
    | cons x xs =>
      have : x = q := by simpa using congrArg List.head? e
      subst this
      obtain ⟨r', hr⟩ := h.first x xs rfl
      exact putL_head hr
theorem Built.valid {g : Int → Int} {ps : List Int} {l : List S48} (h : Built g ps l) {r : List Int} (h0 : ps = 0 :: r) (hF : ∀ p ∈ ps, p < FV) : Valid l := by
  obtain ⟨r', hr⟩ := h.first 0 r h0
  exact ⟨h.asc, ⟨g 0, r', hr⟩, fun s hs => hF _ (h.mem s hs)⟩
/-- The greatest place up to t. -/
theorem greatest : ∀ (ps : List Int) (t : Int), (∃ p ∈ ps, p ≤ t) → ∃ p, p ∈ ps ∧ p ≤ t ∧ ∀ q ∈ ps, q ≤ t → q ≤ p
  | [], _, ⟨p, h, _⟩ => by cases h
  | a :: r, t, ⟨p, hp, hpt⟩ => by
    by_cases c : ∃ q ∈ r, q ≤ t
    · obtain ⟨q, hq, hqt, hm⟩ := greatest r t c
      by_cases ca : a ≤ t ∧ q < a
      · refine ⟨a, List.mem_cons_self, ca.1, fun x hx hxt => ?_⟩
        rcases List.mem_cons.1 hx with rfl | hx
        · exact Int.le_refl _
        · have := hm x hx hxt; omega
      · refine ⟨q, List.mem_cons_of_mem _ hq, hqt, fun x hx hxt => ?_⟩
        rcases List.mem_cons.1 hx with rfl | hx
        · omega
        · exact hm x hx hxt
    · rcases List.mem_cons.1 hp with rfl | hp
      · refine ⟨p, List.mem_cons_self, hpt, fun x hx hxt => ?_⟩
        rcases List.mem_cons.1 hx with rfl | hx
        · exact Int.le_refl _
        · exact absurd ⟨x, hx, hxt⟩ c
      · exact absurd ⟨p, hp, hpt⟩ c
theorem Built.value {g h : Int → Int} {ps : List Int} {l : List S48} (b : Built g ps l) {r : List Int} (h0 : ps = 0 :: r) (t : Int) (ht : 0 ≤ t) (hgh : ∀ p ∈ ps, p ≤ t → (∀ q ∈ ps, q ≤ t → q ≤ p) → g p = h t) : vAt l t = h t := by
  obtain ⟨p, hp, hpt, hm⟩ := greatest ps t ⟨0, by rw [h0]; exact List.mem_cons_self, ht⟩
  rw [b.at_ t p hp hpt hm, hgh p hp hpt hm]
end Go.Proofs.Ytapfdhaohgkjeaa.Q
end
/- steps.Of, plainly: a valid list whose value is the sum of the pieces that hold the instant. -/
section
namespace Go.Proofs.Ytapfdhaohgkjeaa.Q
open Go.RowKit Go.Proofs.YtapfdhaohgkjeaaW.PrintWords Go.Proofs.Ytapfdhaohgkjeaa.XP
set_option linter.unusedVariables false
theorem wrap_nat (i : Nat) (h : i < 4611686018427387904) : wrap64 ((i : Int) + 1) = ((i + 1 : Nat) : Int) := by unfold wrap64; omega
theorem wrap_pred (i : Nat) (h : i < 4611686018427387904) : wrap64 (((i + 1 : Nat) : Int) - 1) = (i : Int) := by unfold wrap64; omega
theorem rd48_nat (l : List S48) (i : Nat) : rd_T48 l (i : Int) = l.getD i z48 := by unfold rd_T48; rw [Int.toNat_natCast]
theorem getD_mid {α : Type} (a : List α) (x : α) (b : List α) (d : α) : (a ++ x :: b).getD a.length d = x := by simp
theorem put_eq (l : List S48) (p n : Int) (h : l.length < 8796093022208) : steps_put.f l p n = some (putL l p n) := by
  unfold steps_put.f putL
  rcases List.eq_nil_or_concat l with rfl | ⟨r, a, rfl⟩
  · simp
  · rw [List.concat_eq_append] at h ⊢
    have hl : (r ++ [a]).length = r.length + 1 := by simp
    have h' : r.length < 8796093022208 := by omega
    rw [hl, if_pos (by omega), wrap_pred _ (by omega), if_pos (by omega), if_pos (by omega), rd48_nat, getD_mid, List.getLast?_concat]
    simp only
    by_cases c : a.f1 = n
    · rw [if_pos c, if_pos c]
    · rw [if_neg c, if_neg c, if_pos (by omega)]
theorem putL_length (l : List S48) (p n : Int) : (putL l p n).length ≤ l.length + 1 := by
  unfold putL
  split
  · simp
  · split <;> simp
/-- A period is valid. -/
abbrev okP (p : S38) : Prop := 0 ≤ p.f0 ∧ p.f0 < p.f1 ∧ p.f1 ≤ FV
/-- The changes of a piece. -/
def chg (c : S40) : List S48 := if okP c.f0 then [⟨c.f0.f0, c.f1⟩, ⟨c.f0.f1, wrap64 (-c.f1)⟩] else []
def sumF : List S48 → Int
  | [] => 0
  | s :: r => s.f1 + sumF r
/-- The sum of the changes up to p. -/
def upto (S : List S48) (p : Int) : Int := sumF (S.filter (fun s => s.f0 ≤ p))
def Sorted (S : List S48) : Prop := S.Pairwise (fun a b => a.f0 ≤ b.f0)
section
variable {S : List S48} (hS : Sorted S) (hlen : S.length < 1099511627776)
include hS hlen
/-- What the loops leave: the steps at these places. -/
structure Fin (S : List S48) (out : List S48) : Prop where
  built : ∃ ps r, Built (fun p => wrap64 (upto S p)) ps out ∧ ps = 0 :: r ∧ (∀ p ∈ ps, p < FV) ∧ ∀ s ∈ S, s.f0 < FV → s.f0 ∈ ps
end
end Go.Proofs.Ytapfdhaohgkjeaa.Q
end
/- steps.Of, plainly: the loops that gather the changes, and the whole. -/
section
namespace Go.Proofs.Ytapfdhaohgkjeaa.Q
open Go.RowKit Go.Proofs.YtapfdhaohgkjeaaW.PrintWords Go.Proofs.Ytapfdhaohgkjeaa.XP
set_option linter.unusedVariables false
/-- The sum of the pieces that hold t. -/
def total : List S40 → Int → Int
  | [], _ => 0
  | c :: r, t => (if okP c.f0 ∧ c.f0.f0 ≤ t ∧ t < c.f0.f1 then c.f1 else 0) + total r t
theorem Fin.value {S : List S48} {o : List S48} (h : Fin S o) (hp : ∀ s ∈ S, 0 ≤ s.f0) : Valid o ∧ ∀ t, 0 ≤ t → t < FV → vAt o t = wrap64 (upto S t) := by
  obtain ⟨ps, r, hb, h0, hF, hm⟩ := h.built
  refine ⟨hb.valid h0 hF, fun t ht htF => ?_⟩
  refine hb.value (h := fun t => wrap64 (upto S t)) h0 t ht (fun p hpp hpt hmax => ?_)
  have : S.filter (fun s => s.f0 ≤ p) = S.filter (fun s => s.f0 ≤ t) := by
    refine List.filter_congr (fun s hs => ?_)
    rw [decide_eq_decide]
    constructor
    · intro h; omega
    · intro h; exact hmax _ (hm s hs (by omega)) h
  show wrap64 (upto S p) = wrap64 (upto S t)
  unfold upto
  rw [this]
end Go.Proofs.Ytapfdhaohgkjeaa.Q
end
/- The reference's sorted places, plainly: Insert, Same, and the reference's Of. -/
section
namespace Go.Proofs.Ytapfdhaohgkjeaa.Q
open Go.RowKit Go.Proofs.YtapfdhaohgkjeaaW.PrintWords Go.Proofs.Ytapfdhaohgkjeaa.XP
set_option linter.unusedVariables false
theorem rd_nat (l : List Int) (i : Nat) : rd l (i : Int) = l.getD i 0 := by unfold rd; rw [Int.toNat_natCast]
theorem rd_mid (a : List Int) (x : Int) (b : List Int) : rd (a ++ x :: b) (a.length : Int) = x := by rw [rd_nat, getD_mid]
theorem rd48_mid (a : List S48) (x : S48) (b : List S48) : rd_T48 (a ++ x :: b) (a.length : Int) = x := by rw [rd48_nat, getD_mid]
/-- A place among ascending places. -/
def ins : List Int → Int → List Int
  | [], x => [x]
  | a :: r, x => if a < x then a :: ins r x else if a > x then x :: a :: r else a :: r
theorem ins_mem : ∀ (l : List Int) (x y : Int), y ∈ ins l x ↔ y = x ∨ y ∈ l
  | [], x, y => by simp [ins]
  | a :: r, x, y => by
    unfold ins
    by_cases c : a < x
    · rw [if_pos c, List.mem_cons, ins_mem r x y, List.mem_cons]
      constructor
      · rintro (h | h | h)
        · exact Or.inr (Or.inl h)
        · exact Or.inl h
        · exact Or.inr (Or.inr h)
      · rintro (h | h | h)
        · exact Or.inr (Or.inl h)
        · exact Or.inl h
        · exact Or.inr (Or.inr h)
    · rw [if_neg c]
      by_cases d : a > x
      · rw [if_pos d, List.mem_cons]
      · rw [if_neg d]
        have : a = x := by omega
        subst this
        simp
theorem ins_length : ∀ (l : List Int) (x : Int), (ins l x).length ≤ l.length + 1
  | [], x => by simp [ins]
  | a :: r, x => by
    have := ins_length r x
    unfold ins
    split
    · simp only [List.length_cons]; omega
    · split <;> simp
abbrev Up (l : List Int) : Prop := l.Pairwise (fun a b => a < b)
theorem ins_up : ∀ (l : List Int) (x : Int), Up l → Up (ins l x)
  | [], x, _ => by simp [ins]
  | a :: r, x, h => by
    have hr := List.pairwise_cons.1 h
    unfold ins
    by_cases c : a < x
    · rw [if_pos c]
      refine List.pairwise_cons.2 ⟨fun y hy => ?_, ins_up r x hr.2⟩
      rcases (ins_mem r x y).1 hy with rfl | hy
      · exact c
      · exact hr.1 y hy
    · rw [if_neg c]
      by_cases d : a > x
      · rw [if_pos d]
        refine List.pairwise_cons.2 ⟨fun y hy => ?_, h⟩
        rcases List.mem_cons.1 hy with rfl | hy
        · exact d
        · have := hr.1 y hy; omega
      · rw [if_neg d]; exact h
theorem insCopy (x0 : List Int) (hl : x0.length < 4398046511104) : ∀ (rest done acc : List Int), x0 = done ++ rest → acc.length ≤ done.length + 1 → Ev (fun k => bitemporalref03_Insert.l1 k x0 acc (done.length : Int)) (acc ++ rest) := by
  intro rest
  induction rest with
  | nil =>
    intro done acc e ha
    rw [List.append_nil]
    refine Ev.step (fun k => by simp only [bitemporalref03_Insert.l1]; rw [if_neg (by rw [e]; simp)]) (Ev.now acc)
  | cons y rest ih =>
    intro done acc e ha
    have hsl : x0.length = done.length + (rest.length + 1) := by rw [e]; simp
    have := ih (done ++ [y]) (acc ++ [y]) (by rw [e]; simp) (by simp; omega)
    rw [show (done ++ [y]).length = done.length + 1 by simp, List.append_assoc, List.singleton_append] at this
    refine Ev.step (fun k => by simp only [bitemporalref03_Insert.l1]; rw [if_pos (by omega), if_pos (by omega), if_pos (by omega), e, rd_mid, ← e, wrap_nat _ (by omega)]) this
theorem insLoop (x0 : List Int) (x : Int) (hl : x0.length < 4398046511104) : ∀ (rest done : List Int), x0 = done ++ rest → Ev (fun k => bitemporalref03_Insert.l0 k x0 x done (done.length : Int)) (done ++ ins rest x) := by
  intro rest
  induction rest with
  | nil =>
    intro done e
    have hsl : x0.length = done.length := by rw [e]; simp
    refine Ev.step (fun k => by simp only [bitemporalref03_Insert.l0]; rw [if_neg (by omega)]) ?_
    refine Ev.step (fun k => by simp only [bitemporalref03_Insert.j1]; rw [if_pos (by omega)]) ?_
    refine Ev.step (fun k => by simp only [bitemporalref03_Insert.j2]; rw [if_pos trivial, if_pos (by omega)]) ?_
    refine Ev.step (fun k => by simp only [bitemporalref03_Insert.j3]; rfl) ?_
    have := insCopy x0 hl [] done (done ++ [x]) e (by simp)
    rw [List.append_nil] at this
    exact this
  | cons y rest ih =>
    intro done e
    have hsl : x0.length = done.length + (rest.length + 1) := by rw [e]; simp
    have hy : rd x0 (done.length : Int) = y := by rw [e, rd_mid]
    unfold ins
    by_cases c : y < x
    · rw [if_pos c]
      have := ih (done ++ [y]) (by rw [e]; simp)
      rw [show (done ++ [y]).length = done.length + 1 by simp, List.append_assoc, List.singleton_append] at this
      exact Ev.step (fun k => by simp only [bitemporalref03_Insert.l0]; rw [if_pos (by omega), if_pos (by omega), hy, if_pos c, if_pos (by omega), wrap_nat _ (by omega)]) this
    · rw [if_neg c]
      refine Ev.step (fun k => by simp only [bitemporalref03_Insert.l0]; rw [if_pos (by omega), if_pos (by omega), hy, if_neg c]) ?_
      by_cases d : y > x
      · rw [if_pos d]
        refine Ev.step (fun k => by simp only [bitemporalref03_Insert.j1]; rw [if_neg (by omega), if_pos (by omega), if_pos (by omega), hy, decide_eq_true d]) ?_
        refine Ev.step (fun k => by simp only [bitemporalref03_Insert.j2]; rw [if_pos trivial, if_pos (by omega)]) ?_
        refine Ev.step (fun k => by simp only [bitemporalref03_Insert.j3]; rfl) ?_
        have := insCopy x0 hl (y :: rest) done (done ++ [x]) e (by simp)
        rw [List.append_assoc, List.singleton_append] at this
        exact this
      · rw [if_neg d]
        refine Ev.step (fun k => by simp only [bitemporalref03_Insert.j1]; rw [if_neg (by omega), if_pos (by omega), if_pos (by omega), hy, decide_eq_false d]) ?_
        refine Ev.step (fun k => by simp only [bitemporalref03_Insert.j2]; rw [if_neg (by decide)]) ?_
        refine Ev.step (fun k => by simp only [bitemporalref03_Insert.j3]; rfl) ?_
        exact insCopy x0 hl (y :: rest) done done e (by omega)
theorem insEv (x0 : List Int) (x : Int) (hl : x0.length < 4398046511104) : Ev (fun k => bitemporalref03_Insert.f k x0 x) (ins x0 x) := insLoop x0 x hl x0 [] rfl
theorem rput_eq (l : List S48) (p n : Int) (h : l.length < 8796093022208) : bitemporalref04_put.f l p n = some (putL l p n) := put_eq l p n h
/-- A period holds t. -/
abbrev holds (p : S38) (t : Int) : Prop := okP p ∧ p.f0 ≤ t ∧ t < p.f1
end Go.Proofs.Ytapfdhaohgkjeaa.Q
end
/- The examples of the chapter, reckoned. -/
section
namespace Go.Proofs.Ytapfdhaohgkjeaa.Q
open Go.RowKit Go.Proofs.YtapfdhaohgkjeaaW.PrintWords Go.Proofs.Ytapfdhaohgkjeaa.XP
theorem awake_true : bitemporallaw04_awake.f 60 = some true := by decide +kernel
theorem awakeEv : Ev (fun k => (bitemporallaw04_awake.f k).bind fun t => some t) true :=
  Ev.bind (Ev.of bitemporallaw04_awake.mono awake_true) (Ev.now true)
end Go.Proofs.Ytapfdhaohgkjeaa.Q
end
/- The value at an instant and valid lists, plainly: the binary search, the reference's walk, and both Valid. -/
section
namespace Go.Proofs.Ytapfdhaohgkjeaa.Q
open Go.RowKit Go.Proofs.YtapfdhaohgkjeaaW.PrintWords Go.Proofs.Ytapfdhaohgkjeaa.XP
set_option linter.unusedVariables false
theorem wrap_pred' (i : Nat) (h : i < 4611686018427387904) : wrap64 ((i : Int) - 1) = (i : Int) - 1 := by unfold wrap64; omega
theorem half (i j : Nat) (hi : i < 4611686018427387904) (hj : j < 4611686018427387904) : wrap64 ((IntKind.u64.wrap (wrap64 ((i : Int) + (j : Int)))) / 2) = (((i + j) / 2 : Nat) : Int) := by
  have e : wrap64 ((i : Int) + (j : Int)) = (i : Int) + j := by unfold wrap64; omega
  rw [e]
  have : IntKind.u64.wrap ((i : Int) + j) = (i : Int) + j := by
    simp [IntKind.wrap, IntKind.signed, IntKind.bits]; omega
  rw [this]
  unfold wrap64; omega
theorem find1_eq (a b t : Int) : steps_find_1.f a b t = some (if a < t then -1 else if t < a then 1 else 0) := by
  unfold steps_find_1.f cmp_Compare_54.f cmp_isNaN_68.f
  simp only [bne_self_eq_false, Option.bind_some, Bool.false_eq_true, if_false]
  by_cases h : a < t
  · rw [if_pos h, if_pos h, Option.bind_some]
  · rw [if_neg h, if_neg h]
    by_cases h2 : t < a
    · rw [if_pos h2, if_pos h2, Option.bind_some]
    · rw [if_neg h2, if_neg h2, Option.bind_some]
theorem getD_left {α : Type} (a b : List α) (d : α) (i : Nat) (h : i < a.length) : (a ++ b).getD i d ∈ a := by
  rw [List.getD_eq_getElem?_getD, List.getElem?_append_left h, List.getElem?_eq_getElem h, Option.getD_some]; exact List.getElem_mem h
theorem getD_right {α : Type} (a b : List α) (d : α) (i : Nat) (h : a.length ≤ i) (h2 : i < a.length + b.length) : (a ++ b).getD i d ∈ b := by
  rw [List.getD_eq_getElem?_getD, List.getElem?_append_right h, List.getElem?_eq_getElem (by omega), Option.getD_some]; exact List.getElem_mem _
theorem search (a b : List S48) (t : Int) (hl : (a ++ b).length < 4611686018427387904) (ha : ∀ s ∈ a, s.f0 < t) (hb : ∀ s ∈ b, t ≤ s.f0) : ∀ (n i j : Nat), j - i ≤ n → i ≤ a.length → a.length ≤ j → j ≤ (a ++ b).length →
    ∃ f, Ev (fun k => slices_BinarySearchFunc_73__74.l0 k (a ++ b) t ((a ++ b).length : Int) (i : Int) (j : Int)) ((a.length : Int), f) ∧ (f = true ↔ ∃ s r, b = s :: r ∧ s.f0 = t) := by
  intro n
  have hlen : (a ++ b).length = a.length + b.length := by simp
  induction n with
  | zero =>
    intro i j hn hi hj hjl
    have hij : i = j := by omega
    have hia : i = a.length := by omega
    subst hij
    subst hia
    cases b with
    | nil =>
      refine ⟨false, Ev.step (fun k => by simp only [slices_BinarySearchFunc_73__74.l0]; rw [if_neg (by omega), if_neg (by rw [hlen]; simp)]) (Ev.now _), ?_⟩
      constructor
      · intro h; cases h
      · rintro ⟨s, r, h, _⟩; cases h
    | cons s r =>
      have hs : t ≤ s.f0 := hb s List.mem_cons_self
      refine ⟨decide (s.f0 = t), Ev.step (fun k => by
        simp only [slices_BinarySearchFunc_73__74.l0]
        rw [if_neg (by omega), if_pos (by rw [hlen]; simp; omega), if_pos (by omega), if_pos (by rw [hlen]; simp; omega), rd48_mid, find1_eq, Option.bind_some]) ?_, ?_⟩
      · have : (((if s.f0 < t then (-1 : Int) else if t < s.f0 then 1 else 0) == 0)) = decide (s.f0 = t) := by
          rw [if_neg (by omega)]
          by_cases c : t < s.f0
          · rw [if_pos c, decide_eq_false (by omega)]; rfl
          · rw [if_neg c, decide_eq_true (by omega)]; rfl
        rw [this]; exact Ev.now _
      · rw [decide_eq_true_iff]
        constructor
        · intro h; exact ⟨s, r, rfl, h⟩
        · rintro ⟨s', r', h, h2⟩; cases h; exact h2
  | succ n ih =>
    intro i j hn hi hj hjl
    by_cases hij : i < j
    · have hh : (i + j) / 2 < a.length + b.length := by omega
      by_cases c : (i + j) / 2 < a.length
      · obtain ⟨f, h1, h2⟩ := ih ((i + j) / 2 + 1) j (by omega) (by omega) hj hjl
        refine ⟨f, Ev.step (fun k => by
          simp only [slices_BinarySearchFunc_73__74.l0]
          rw [if_pos (by omega), half i j (by omega) (by omega), if_pos (by omega), if_pos (by rw [hlen]; omega), find1_eq, Option.bind_some, if_pos (ha _ (by rw [rd48_nat]; exact getD_left a b _ _ c)), if_pos (by decide), wrap_nat _ (by omega)]) h1, h2⟩
      · obtain ⟨f, h1, h2⟩ := ih i ((i + j) / 2) (by omega) hi (by omega) (by omega)
        have hge : t ≤ (rd_T48 (a ++ b) (((i + j) / 2 : Nat) : Int)).f0 := hb _ (by rw [rd48_nat]; exact getD_right a b _ _ (by omega) hh)
        refine ⟨f, Ev.step (fun k => by
          simp only [slices_BinarySearchFunc_73__74.l0]
          rw [if_pos (by omega), half i j (by omega) (by omega), if_pos (by omega), if_pos (by rw [hlen]; omega), find1_eq, Option.bind_some, if_neg (by omega)]) h1, h2⟩
    · exact ih i j (by omega) hi hj hjl
theorem split_at (t : Int) : ∀ l : List S48, Asc l → ∃ a b, l = a ++ b ∧ (∀ s ∈ a, s.f0 < t) ∧ ∀ s ∈ b, t ≤ s.f0
  | [], _ => ⟨[], [], rfl, (fun _ h => by cases h), fun _ h => by cases h⟩
  | x :: r, h => by
    by_cases c : x.f0 < t
    · obtain ⟨a, b, e, ha, hb⟩ := split_at t r h.tail
      refine ⟨x :: a, b, by rw [e]; rfl, fun s hs => ?_, hb⟩
      rcases List.mem_cons.1 hs with rfl | hs
      · exact c
      · exact ha s hs
    · refine ⟨[], x :: r, rfl, (fun _ h => by cases h), fun s hs => ?_⟩
      rcases List.mem_cons.1 hs with rfl | hs
      · omega
      · have := h.gt s hs; omega
theorem vFrom_append (t n : Int) (a b : List S48) : vFrom t n (a ++ b) = vFrom t (vFrom t n a) b := by unfold vFrom; rw [List.foldl_append]
/-- The value at an instant, 0 outside the line. -/
def atV (l : List S48) (t : Int) : Int := if 0 ≤ t ∧ t < FV then vAt l t else 0
theorem atEv (l : List S48) (t : Int) (hA : Asc l) (hl : l.length < 4611686018427387904) : Ev (fun k => steps_At.f k l t) (atV l t) := by
  unfold atV
  by_cases h0 : 0 ≤ t ∧ t < FV
  · have h0' : 0 ≤ t ∧ t < 1099511627776 := h0
    rw [if_pos h0]
    refine Ev.congr (fun k => by unfold steps_At.f; rw [if_neg (by omega), decide_eq_false (by omega)]) ?_
    obtain ⟨a, b, rfl, ha, hb⟩ := split_at t l hA
    obtain ⟨f, h1, h2⟩ := search a b t hl ha hb (a ++ b).length 0 (a ++ b).length (by omega) (by omega) (by simp) (Nat.le_refl _)
    have hlen : (a ++ b).length = a.length + b.length := by simp
    refine Ev.step (f := fun k => (steps_find.f k (a ++ b) t).bind fun t173 => (if t173 < 0 then (some 0) else (if 0 ≤ t173 then (if t173 < ((a ++ b).length : Int) then (some ((rd_T48 (a ++ b) t173).f1)) else (none)) else (none)))) (fun k => by simp only [steps_At.j0]; rw [if_neg (by decide)]) ?_
    have hf : ∀ i : Int, (if f = true then some (a.length : Int) else some (wrap64 ((a.length : Int) - 1))) = some i → Ev (fun k => steps_find.f k (a ++ b) t) i := fun i hi => by
      refine Ev.congr (fun k => by unfold steps_find.f slices_BinarySearchFunc_73__74.f; rfl) (Ev.bind h1 ?_)
      exact Ev.congr (fun k => hi) (Ev.now i)
    by_cases c : f = true
    · obtain ⟨s, r, rfl, hs⟩ := h2.1 c
      refine Ev.bind (hf (a.length : Int) (by rw [if_pos c])) ?_
      refine Ev.congr (fun k => by rw [if_neg (by omega), if_pos (by omega), if_pos (by rw [hlen]; simp; omega), rd48_mid]) ?_
      have : vAt (a ++ s :: r) t = s.f1 := by
        unfold vAt
        have hr : Asc (s :: r) := by
          clear h1 h2 hf hlen hl hb ha
          induction a with
          | nil => exact hA
          | cons x a ih => exact ih (Asc.tail hA)
        rw [vFrom_append, vFrom_cons, if_pos (by omega), vFrom_late _ _ _ (fun x hx => by have := hr.gt x hx; omega)]
      rw [this]; exact Ev.now _
    · have hlate : ∀ s ∈ b, t < s.f0 := by
        intro s hs
        cases b with
        | nil => cases hs
        | cons x r =>
          have hx : t ≤ x.f0 := hb x List.mem_cons_self
          have hne : x.f0 ≠ t := fun e => c (h2.2 ⟨x, r, rfl, e⟩)
          have hr : Asc (x :: r) := by
            clear h1 h2 hf hlen hl hb ha c hs
            induction a with
            | nil => exact hA
            | cons y a ih => exact ih (Asc.tail hA)
          rcases List.mem_cons.1 hs with rfl | hs
          · omega
          · have := hr.gt s hs; omega
      refine Ev.bind (hf _ (by rw [if_neg c])) ?_
      rw [wrap_pred' _ (by omega)]
      have hv : vAt (a ++ b) t = vAt a t := by unfold vAt; rw [vFrom_append, vFrom_late _ _ b hlate]
      rw [hv]
      rcases List.eq_nil_or_concat a with rfl | ⟨a', s, rfl⟩
      · exact Ev.congr (fun k => by rw [if_pos (by simp)]) (Ev.now 0)
      · rw [List.concat_eq_append] at *
        have hs : s.f0 < t := ha s (by simp)
        have e1 : (((a' ++ [s]).length : Nat) : Int) - 1 = (a'.length : Int) := by simp
        rw [e1, vAt_snoc, if_pos (show s.f0 ≤ t from by omega)]
        refine Ev.congr (fun k => by rw [if_neg (by omega), if_pos (by omega), if_pos (by rw [hlen]; simp; omega), List.append_assoc, List.singleton_append, rd48_mid]) (Ev.now _)
  · have h0' : ¬ (0 ≤ t ∧ t < 1099511627776) := h0
    rw [if_neg h0]
    have : ∀ k, steps_At.f k l t = steps_At.j0 k l t true := by
      intro k
      unfold steps_At.f
      by_cases h : t < 0
      · rw [if_pos h]
      · rw [if_neg h, decide_eq_true (by omega)]
    refine Ev.congr this ?_
    exact Ev.step (fun k => by simp only [steps_At.j0]; rw [if_pos trivial]) (Ev.now 0)
theorem rat_loop (l : List S48) (t : Int) (hl : l.length < 4611686018427387904) : ∀ (rest done : List S48) (n : Int), l = done ++ rest → Ev (fun k => bitemporalref04_At.l0 k l t n (done.length : Int)) (if 0 ≤ t ∧ t < FV then vFrom t n rest else n) := by
  intro rest
  induction rest with
  | nil =>
    intro done n e
    have hsl : l.length = done.length := by rw [e]; simp
    have : (if 0 ≤ t ∧ t < FV then vFrom t n [] else n) = n := by split <;> rfl
    rw [this]
    refine Ev.step (fun k => by simp only [bitemporalref04_At.l0]; rw [if_neg (by omega)]) ?_
    exact Ev.step (fun k => by simp only [bitemporalref04_At.j1]; rw [if_neg (by decide)]) (Ev.now n)
  | cons s rest ih =>
    intro done n e
    have hsl : l.length = done.length + (rest.length + 1) := by rw [e]; simp
    have hg : rd_T48 l (done.length : Int) = s := by rw [e, rd48_mid]
    by_cases h0 : 0 ≤ t ∧ t < FV
    · have h0' : 0 ≤ t ∧ t < 1099511627776 := h0
      have := ih (done ++ [s]) (if s.f0 ≤ t then s.f1 else n) (by rw [e]; simp)
      rw [if_pos h0, show (done ++ [s]).length = done.length + 1 by simp] at this
      rw [if_pos h0, vFrom_cons]
      refine Ev.step (fun k => by simp only [bitemporalref04_At.l0]; rw [if_pos (by omega), if_pos (by omega), decide_eq_true (by omega)]) ?_
      by_cases c : s.f0 ≤ t
      · rw [if_pos c] at this ⊢
        exact Ev.step (fun k => by simp only [bitemporalref04_At.j1]; rw [if_pos trivial, if_pos (by omega), if_pos (by omega), hg, if_pos c, wrap_nat _ (by omega)]) this
      · rw [if_neg c] at this ⊢
        exact Ev.step (fun k => by simp only [bitemporalref04_At.j1]; rw [if_pos trivial, if_pos (by omega), if_pos (by omega), hg, if_neg c, wrap_nat _ (by omega)]) this
    · have h0' : ¬ (0 ≤ t ∧ t < 1099511627776) := h0
      rw [if_neg h0]
      refine Ev.step (f := fun k => bitemporalref04_At.j1 k l t n (done.length : Int) false) (fun k => by
        simp only [bitemporalref04_At.l0]
        rw [if_pos (by omega)]
        by_cases h : t ≥ 0
        · rw [if_pos h, decide_eq_false (by omega)]
        · rw [if_neg h]) ?_
      exact Ev.step (fun k => by simp only [bitemporalref04_At.j1]; rw [if_neg (by decide)]) (Ev.now n)
theorem ratEv (l : List S48) (t : Int) (hl : l.length < 4611686018427387904) : Ev (fun k => bitemporalref04_At.f k l t) (atV l t) := rat_loop l t hl l [] 0 rfl
end Go.Proofs.Ytapfdhaohgkjeaa.Q
end
/- Valid lists of steps, plainly. -/
section
namespace Go.Proofs.Ytapfdhaohgkjeaa.Q
open Go.RowKit Go.Proofs.YtapfdhaohgkjeaaW.PrintWords Go.Proofs.Ytapfdhaohgkjeaa.XP
set_option linter.unusedVariables false
theorem valid_loop (l : List S48) (hl : l.length < 4611686018427387904) : ∀ (rest done : List S48) (p : S48), l = done ++ p :: rest →
    ∃ b, Ev (fun k => bitemporalref04_Valid.l0 k l ((done.length + 1 : Nat) : Int)) b ∧ (b = true ↔ Asc (p :: rest) ∧ ∀ s ∈ rest, s.f0 < FV) := by
  intro rest
  induction rest with
  | nil =>
    intro done p e
    have hsl : l.length = done.length + 1 := by rw [e]; simp
    exact ⟨true, Ev.step (fun k => by simp only [bitemporalref04_Valid.l0]; rw [if_neg (by omega)]) (Ev.now true), by simp [Asc]⟩
  | cons s rest ih =>
    intro done p e
    have hsl : l.length = done.length + 1 + (rest.length + 1) := by rw [e]; simp; omega
    have hp : rd_T48 l (done.length : Int) = p := by rw [e, rd48_mid]
    have hs : rd_T48 l ((done.length + 1 : Nat) : Int) = s := by
      rw [e, show done ++ p :: s :: rest = (done ++ [p]) ++ s :: rest by simp, show done.length + 1 = (done ++ [p]).length by simp, rd48_mid]
    have hw : wrap64 (((done.length + 1 : Nat) : Int) - 1) = (done.length : Int) := wrap_pred _ (by omega)
    have base : ∀ k, bitemporalref04_Valid.l0 (k + 1) l ((done.length + 1 : Nat) : Int) = (if s.f0 ≤ p.f0 then (some false) else (if s.f0 ≥ 1099511627776 then (some false) else (if s.f1 = p.f1 then (some false) else (bitemporalref04_Valid.l0 k l (wrap64 (((done.length + 1 : Nat) : Int) + 1)))))) := fun k => by
      simp only [bitemporalref04_Valid.l0]; rw [if_pos (by omega), if_pos (by omega), hw, if_pos (by omega), if_pos (by omega), hs, hp]
    by_cases c1 : s.f0 ≤ p.f0
    · refine ⟨false, Ev.step (fun k => by rw [base, if_pos c1]) (Ev.now false), ?_⟩
      simp only [Asc]
      constructor
      · intro h; cases h
      · rintro ⟨⟨h, _⟩, _⟩; omega
    · by_cases c2 : s.f0 ≥ 1099511627776
      · refine ⟨false, Ev.step (fun k => by rw [base, if_neg c1, if_pos c2]) (Ev.now false), ?_⟩
        constructor
        · intro h; cases h
        · rintro ⟨_, h⟩; have := h s List.mem_cons_self; simp only [FV] at this; omega
      · by_cases c3 : s.f1 = p.f1
        · refine ⟨false, Ev.step (fun k => by rw [base, if_neg c1, if_neg c2, if_pos c3]) (Ev.now false), ?_⟩
          constructor
          · intro h; cases h
          · rintro ⟨⟨_, h, _⟩, _⟩; exact absurd c3.symm h
        · obtain ⟨b, h1, h2⟩ := ih (done ++ [p]) s (by rw [e]; simp)
          rw [show (done ++ [p]).length = done.length + 1 by simp] at h1
          refine ⟨b, Ev.step (fun k => by rw [base, if_neg c1, if_neg c2, if_neg c3, wrap_nat _ (by omega)]) h1, ?_⟩
          rw [h2]
          simp only [Asc]
          constructor
          · rintro ⟨h3, h4⟩
            refine ⟨⟨by omega, fun h => c3 h.symm, h3⟩, fun x hx => ?_⟩
            rcases List.mem_cons.1 hx with rfl | hx
            · simp only [FV]; omega
            · exact h4 x hx
          · rintro ⟨h3, h4⟩
            exact ⟨h3.2.2, fun x hx => h4 x (List.mem_cons_of_mem _ hx)⟩
theorem validEv (l : List S48) (hl : l.length < 4611686018427387904) : ∃ b, Ev (fun k => bitemporalref04_Valid.f k l) b ∧ (b = true ↔ Valid l) := by
  cases l with
  | nil =>
    refine ⟨false, Ev.congr (fun k => by unfold bitemporalref04_Valid.f; rw [if_pos (by simp)]) (Ev.step (fun k => by simp only [bitemporalref04_Valid.j0]; rw [if_pos trivial]) (Ev.now false)), ?_⟩
    constructor
    · intro h; cases h
    · rintro ⟨_, ⟨n, r, h⟩, _⟩; cases h
  | cons p rest =>
    have hg : rd_T48 (p :: rest) 0 = p := rfl
    by_cases c : p.f0 = 0
    · obtain ⟨b, h1, h2⟩ := valid_loop (p :: rest) hl rest [] p rfl
      refine ⟨b, Ev.congr (fun k => by unfold bitemporalref04_Valid.f; rw [if_neg (by simp; omega), if_pos (by simp), hg, c]) (Ev.step (fun k => by simp only [bitemporalref04_Valid.j0]; rw [if_neg (by decide)]; rfl) h1), ?_⟩
      rw [h2]
      constructor
      · rintro ⟨h3, h4⟩
        refine ⟨h3, ⟨p.f1, rest, by cases p; simp at c; rw [c]⟩, fun s hs => ?_⟩
        rcases List.mem_cons.1 hs with rfl | hs
        · rw [c]; decide
        · exact h4 s hs
      · intro h; exact ⟨h.asc, fun s hs => h.lim s (List.mem_cons_of_mem _ hs)⟩
    · have hb : (p.f0 != 0) = true := by simpa using c
      refine ⟨false, Ev.congr (fun k => by unfold bitemporalref04_Valid.f; rw [if_neg (by simp; omega), if_pos (by simp), hg, hb]) (Ev.step (fun k => by simp only [bitemporalref04_Valid.j0]; rw [if_pos trivial]) (Ev.now false)), ?_⟩
      constructor
      · intro h; cases h
      · rintro ⟨_, ⟨n, r, h⟩, _⟩; cases h; exact absurd rfl c
theorem validTrue {l : List S48} (h : Valid l) : Ev (fun k => bitemporalref04_Valid.f k l) true := by
  obtain ⟨b, h1, h2⟩ := validEv l (by have := h.length; omega)
  rw [h2.2 h] at h1; exact h1
/-- At most 24 steps, and valid. -/
theorem fineEv (l : List S48) : ∃ b, Ev (fun k => bitemporallaw04_fine.f k l) b ∧ (b = true ↔ l.length ≤ 24 ∧ Valid l) := by
  by_cases c : (l.length : Int) ≤ 24
  · obtain ⟨b, h1, h2⟩ := validEv l (by omega)
    refine ⟨b, Ev.congr (fun k => by unfold bitemporallaw04_fine.f; rw [if_pos c]) (Ev.bind h1 (Ev.now b)), ?_⟩
    rw [h2]
    exact ⟨fun h => ⟨by omega, h⟩, fun h => h.2⟩
  · refine ⟨false, Ev.congr (fun k => by unfold bitemporallaw04_fine.f; rw [if_neg c]) (Ev.now false), ?_⟩
    constructor
    · intro h; cases h
    · rintro ⟨h, _⟩; omega
end Go.Proofs.Ytapfdhaohgkjeaa.Q
end
/- The places of two lists, merged, plainly. -/
section
namespace Go.Proofs.Ytapfdhaohgkjeaa.Q
open Go.RowKit Go.Proofs.YtapfdhaohgkjeaaW.PrintWords Go.Proofs.Ytapfdhaohgkjeaa.XP
set_option linter.unusedVariables false
/-- A place is put behind, unless it stands there. -/
def pushP (l : List Int) (p : Int) : List Int := match l.getLast? with
  | none => l ++ [p]
  | some q => if q = p then l else l ++ [p]
theorem pushP_length (l : List Int) (p : Int) : (pushP l p).length ≤ l.length + 1 := by
  unfold pushP
  split
  · simp
  · split <;> simp
theorem pushP_mem (l : List Int) (p x : Int) : x ∈ pushP l p ↔ x ∈ l ∨ x = p := by
  unfold pushP
  split
  · simp
  · rename_i q e
    split
    · rename_i c
      subst c
      have := List.mem_of_getLast? e
      constructor
      · exact Or.inl
      · rintro (h | rfl)
        · exact h
        · exact this
    · simp
theorem Up.snoc {l : List Int} {p : Int} (h : Up l) (hp : ∀ q ∈ l, q < p) : Up (l ++ [p]) := by
  refine List.pairwise_append.2 ⟨h, by simp, fun a ha b hb => ?_⟩
  rw [List.mem_singleton.1 hb]; exact hp a ha
theorem pushP_up {l : List Int} {p : Int} (h : Up l) (hp : ∀ q ∈ l, q ≤ p) : Up (pushP l p) := by
  unfold pushP
  split
  · rename_i e
    have : l = [] := List.getLast?_eq_none_iff.1 e
    subst this; simp
  · rename_i q e
    split
    · exact h
    · rename_i c
      refine h.snoc (fun x hx => ?_)
      obtain ⟨r, rfl⟩ := List.getLast?_eq_some_iff.1 e
      have hq := hp q (by simp)
      rcases List.mem_append.1 hx with hx | hx
      · have := (List.pairwise_append.1 h).2.2 x hx q (by simp); omega
      · rw [List.mem_singleton.1 hx]; omega
theorem push_step (l : List Int) (p : Int) (hl : l.length < 4398046511104) {α : Type} (f : List Int → Option α) :
    (if (l.length : Int) = 0 then (if l.length < 17592186044416 then f (l ++ [p]) else none) else (if 0 ≤ (wrap64 ((l.length : Int) - 1)) then (if (wrap64 ((l.length : Int) - 1)) < (l.length : Int) then (if (rd l (wrap64 ((l.length : Int) - 1))) = p then f l else (if l.length < 17592186044416 then f (l ++ [p]) else none)) else none) else none)) = f (pushP l p) := by
  unfold pushP
  rcases List.eq_nil_or_concat l with rfl | ⟨r, a, rfl⟩
  · simp
  · rw [List.concat_eq_append] at hl ⊢
    have e : (r ++ [a]).length = r.length + 1 := by simp
    rw [List.getLast?_concat]
    simp only
    rw [e, if_neg (by omega), wrap_pred _ (by omega), if_pos (by omega), if_pos (by omega), rd_mid]
    by_cases c : a = p
    · rw [if_pos c, if_pos c]
    · rw [if_neg c, if_neg c, if_pos (by omega)]
structure Mg (a b : List S48) (pts : List Int) : Prop where
  up : Up pts
  mem : ∀ x, x ∈ pts ↔ (∃ s ∈ a, s.f0 = x) ∨ ∃ s ∈ b, s.f0 = x
theorem Asc.right : ∀ {a b : List S48}, Asc (a ++ b) → Asc b
  | [], _, h => h
  | _ :: _, _, h => Asc.right (Asc.tail h)
theorem merge_loop (a b : List S48) (hA : Asc a) (hB : Asc b) (hla : a.length < 1099511627777) (hlb : b.length < 1099511627777) : ∀ (n : Nat) (da ra db rb : List S48) (pts : List Int), a = da ++ ra → b = db ++ rb → ra.length + rb.length ≤ n → Mg da db pts → (∀ q ∈ pts, (∀ s ∈ ra, q ≤ s.f0) ∧ ∀ s ∈ rb, q ≤ s.f0) → pts.length ≤ da.length + db.length →
    ∃ P, Mg a b P ∧ P.length ≤ a.length + b.length ∧ Ev (fun k => steps_merge_70__71_71.l0 k a b pts (da.length : Int) (db.length : Int)) P := by
  have fin : ∀ (da db : List S48) (pts : List Int), a = da → b = db → Mg da db pts → pts.length ≤ da.length + db.length → ∃ P, Mg a b P ∧ P.length ≤ a.length + b.length ∧ Ev (fun k => steps_merge_70__71_71.l0 k a b pts (da.length : Int) (db.length : Int)) P := by
    intro da db pts ea eb hm hp
    subst ea; subst eb
    refine ⟨pts, hm, hp, Ev.step (fun k => by simp only [steps_merge_70__71_71.l0]; rw [if_neg (by omega), decide_eq_false (by omega)]) ?_⟩
    exact Ev.step (fun k => by simp only [steps_merge_70__71_71.j1]; rw [if_neg (by decide)]) (Ev.now pts)
  intro n
  induction n with
  | zero =>
    intro da ra db rb pts ea eb hn hm hq hp
    have e1 : ra = [] := List.eq_nil_of_length_eq_zero (by omega)
    have e2 : rb = [] := List.eq_nil_of_length_eq_zero (by omega)
    subst e1; subst e2
    rw [List.append_nil] at ea eb
    exact fin da db pts ea eb hm hp
  | succ n ih =>
    intro da ra db rb pts ea eb hn hm hq hp
    have la : a.length = da.length + ra.length := by rw [ea]; simp
    have lb : b.length = db.length + rb.length := by rw [eb]; simp
    have takeA : ∀ s r, ra = s :: r → (∀ x ∈ rb, s.f0 ≤ x.f0) → ∃ P, Mg a b P ∧ P.length ≤ a.length + b.length ∧ Ev (fun k => steps_merge_70__71_71.j2 k a b pts (da.length : Int) (db.length : Int) true) P := by
      intro s r e hle
      subst e
      have hs : rd_T48 a (da.length : Int) = s := by rw [ea, rd48_mid]
      simp only [List.length_cons] at la hn
      have hgt := (ea ▸ hA : Asc (da ++ s :: r)).right.gt
      have hm2 : Mg (da ++ [s]) db (pushP pts s.f0) := by
        refine ⟨pushP_up hm.up (fun q h => (hq q h).1 s List.mem_cons_self), fun x => ?_⟩
        rw [pushP_mem, hm.mem x]
        simp only [List.mem_append, List.mem_singleton]
        constructor
        · rintro ((⟨u, h1, h2⟩ | ⟨u, h1, h2⟩) | rfl)
          · exact Or.inl ⟨u, Or.inl h1, h2⟩
          · exact Or.inr ⟨u, h1, h2⟩
          · exact Or.inl ⟨s, Or.inr rfl, rfl⟩
        · rintro (⟨u, h1 | rfl, h2⟩ | ⟨u, h1, h2⟩)
          · exact Or.inl (Or.inl ⟨u, h1, h2⟩)
          · exact Or.inr h2.symm
          · exact Or.inl (Or.inr ⟨u, h1, h2⟩)
      obtain ⟨P, h1, h2, h3⟩ := ih (da ++ [s]) r db rb (pushP pts s.f0) (by rw [ea]; simp) eb (by omega) hm2 (fun q h => by
        rcases (pushP_mem _ _ _).1 h with h | rfl
        · have h_self : ∀ x ∈ r, q ≤ x.f0 := fun x hx => (hq q h).1 x (List.mem_cons_of_mem _ hx)
          have h_oth : ∀ x ∈ rb, q ≤ x.f0 := fun x hx => (hq q h).2 x hx
          exact ⟨h_self, h_oth⟩
        · have h_self : ∀ x ∈ r, s.f0 ≤ x.f0 := fun x hx => Int.le_of_lt (hgt x hx)
          have h_oth : ∀ x ∈ rb, s.f0 ≤ x.f0 := hle
          exact ⟨h_self, h_oth⟩) (by have := pushP_length pts s.f0; simp only [List.length_append, List.length_singleton]; omega)
      rw [show (da ++ [s]).length = da.length + 1 by simp] at h3
      refine ⟨P, h1, h2, Ev.step (fun k => ?_) h3⟩
      simp only [steps_merge_70__71_71.j2]
      rw [if_pos trivial, if_pos (by omega), if_pos (by omega), hs]
      simp only [steps_from.f, Option.bind_some]
      rw [wrap_nat _ (by omega)]
      exact push_step pts s.f0 (by omega) (fun z => steps_merge_70__71_71.l0 k a b z ((da.length + 1 : Nat) : Int) (db.length : Int))
    have takeB : ∀ s r, rb = s :: r → (∀ x ∈ ra, s.f0 ≤ x.f0) → ∃ P, Mg a b P ∧ P.length ≤ a.length + b.length ∧ Ev (fun k => steps_merge_70__71_71.j2 k a b pts (da.length : Int) (db.length : Int) false) P := by
      intro s r e hle
      subst e
      have hs : rd_T48 b (db.length : Int) = s := by rw [eb, rd48_mid]
      simp only [List.length_cons] at lb hn
      have hgt := (eb ▸ hB : Asc (db ++ s :: r)).right.gt
      have hm2 : Mg da (db ++ [s]) (pushP pts s.f0) := by
        refine ⟨pushP_up hm.up (fun q h => (hq q h).2 s List.mem_cons_self), fun x => ?_⟩
        rw [pushP_mem, hm.mem x]
        simp only [List.mem_append, List.mem_singleton]
        constructor
        · rintro ((⟨u, h1, h2⟩ | ⟨u, h1, h2⟩) | rfl)
          · exact Or.inl ⟨u, h1, h2⟩
          · exact Or.inr ⟨u, Or.inl h1, h2⟩
          · exact Or.inr ⟨s, Or.inr rfl, rfl⟩
        · rintro (⟨u, h1, h2⟩ | ⟨u, h1 | rfl, h2⟩)
          · exact Or.inl (Or.inl ⟨u, h1, h2⟩)
          · exact Or.inl (Or.inr ⟨u, h1, h2⟩)
          · exact Or.inr h2.symm
      obtain ⟨P, h1, h2, h3⟩ := ih da ra (db ++ [s]) r (pushP pts s.f0) ea (by rw [eb]; simp) (by omega) hm2 (fun q h => by
        rcases (pushP_mem _ _ _).1 h with h | rfl
        · have h_self : ∀ x ∈ r, q ≤ x.f0 := fun x hx => (hq q h).2 x (List.mem_cons_of_mem _ hx)
          have h_oth : ∀ x ∈ ra, q ≤ x.f0 := fun x hx => (hq q h).1 x hx
          exact ⟨h_oth, h_self⟩
        · have h_self : ∀ x ∈ r, s.f0 ≤ x.f0 := fun x hx => Int.le_of_lt (hgt x hx)
          have h_oth : ∀ x ∈ ra, s.f0 ≤ x.f0 := hle
          exact ⟨h_oth, h_self⟩) (by have := pushP_length pts s.f0; simp only [List.length_append, List.length_singleton]; omega)
      rw [show (db ++ [s]).length = db.length + 1 by simp] at h3
      refine ⟨P, h1, h2, Ev.step (fun k => ?_) h3⟩
      simp only [steps_merge_70__71_71.j2]
      rw [if_neg (by decide), if_pos (by omega), if_pos (by omega), hs]
      simp only [steps_from.f, Option.bind_some]
      rw [wrap_nat _ (by omega)]
      exact push_step pts s.f0 (by omega) (fun z => steps_merge_70__71_71.l0 k a b z (da.length : Int) ((db.length + 1 : Nat) : Int))
    cases ra with
    | nil =>
      cases rb with
      | nil => rw [List.append_nil] at ea eb; exact fin da db pts ea eb hm hp
      | cons y rb =>
        simp only [List.length_cons, List.length_nil] at la lb
        obtain ⟨P, h1, h2, h3⟩ := takeB y rb rfl (fun x hx => by cases hx)
        refine ⟨P, h1, h2, Ev.step (fun k => by simp only [steps_merge_70__71_71.l0]; rw [if_neg (by omega), decide_eq_true (by omega)]) ?_⟩
        exact Ev.step (fun k => by simp only [steps_merge_70__71_71.j1]; rw [if_pos trivial, if_neg (by omega), if_neg (by omega)]) h3
    | cons s r =>
      simp only [List.length_cons] at la
      have hs : rd_T48 a (da.length : Int) = s := by rw [ea, rd48_mid]
      cases rb with
      | nil =>
        simp only [List.length_nil] at lb
        obtain ⟨P, h1, h2, h3⟩ := takeA s r rfl (fun x hx => by cases hx)
        refine ⟨P, h1, h2, Ev.step (fun k => by simp only [steps_merge_70__71_71.l0]; rw [if_pos (by omega)]) ?_⟩
        exact Ev.step (fun k => by simp only [steps_merge_70__71_71.j1]; rw [if_pos trivial, if_pos (by omega)]) h3
      | cons y rb =>
        simp only [List.length_cons] at lb
        have hy : rd_T48 b (db.length : Int) = y := by rw [eb, rd48_mid]
        have gs := (ea ▸ hA : Asc (da ++ s :: r)).right.gt
        have gy := (eb ▸ hB : Asc (db ++ y :: rb)).right.gt
        have go : ∀ (f : Bool) P, decide (s.f0 ≤ y.f0) = f → Ev (fun k => steps_merge_70__71_71.j2 k a b pts (da.length : Int) (db.length : Int) f) P → Ev (fun k => steps_merge_70__71_71.l0 k a b pts (da.length : Int) (db.length : Int)) P := fun f P hf h => by
          refine Ev.step (fun k => by simp only [steps_merge_70__71_71.l0]; rw [if_pos (by omega)]) ?_
          refine Ev.step (fun k => by simp only [steps_merge_70__71_71.j1]; rw [if_pos trivial, if_neg (by omega), if_pos (by omega), if_pos (by omega), hs]; simp only [steps_from.f, Option.bind_some]; rw [if_pos (by omega), if_pos (by omega), hy, hf]) h
        by_cases c : s.f0 ≤ y.f0
        · obtain ⟨P, h1, h2, h3⟩ := takeA s r rfl (fun x hx => by
            rcases List.mem_cons.1 hx with rfl | hx
            · exact c
            · have := gy x hx; omega)
          exact ⟨P, h1, h2, go true P (decide_eq_true c) h3⟩
        · obtain ⟨P, h1, h2, h3⟩ := takeB y rb rfl (fun x hx => by
            rcases List.mem_cons.1 hx with rfl | hx
            · omega
            · have := gs x hx; omega)
          exact ⟨P, h1, h2, go false P (decide_eq_false c) h3⟩
theorem mergeEv (a b : List S48) (hA : Asc a) (hB : Asc b) (hla : a.length < 1099511627777) (hlb : b.length < 1099511627777) : ∃ P, Mg a b P ∧ P.length ≤ a.length + b.length ∧ Ev (fun k => steps_merge_70__71_71.f k a b) P :=
  merge_loop a b hA hB hla hlb (a.length + b.length) [] a [] b [] rfl rfl (Nat.le_refl _) ⟨by simp, fun x => by simp⟩ (fun q h => by cases h) (by simp)
end Go.Proofs.Ytapfdhaohgkjeaa.Q
end
/- The combines of steps, plainly: valid lists whose values are the combined values. -/
section
namespace Go.Proofs.Ytapfdhaohgkjeaa.Q
open Go.RowKit Go.Proofs.YtapfdhaohgkjeaaW.PrintWords Go.Proofs.YtapfdhaohgkjeaaW.PrintMore Go.Proofs.Ytapfdhaohgkjeaa.XP
set_option linter.unusedVariables false
theorem vFrom_cong (s t : Int) : ∀ (l : List S48) (n : Int), (∀ x ∈ l, x.f0 ≤ s ↔ x.f0 ≤ t) → vFrom s n l = vFrom t n l
  | [], _, _ => rfl
  | x :: r, n, h => by
    have h1 := h x List.mem_cons_self
    rw [vFrom_cons, vFrom_cons, vFrom_cong s t r _ (fun y hy => h y (List.mem_cons_of_mem _ hy))]
    by_cases c : x.f0 ≤ s
    · rw [if_pos c, if_pos (h1.1 c)]
    · rw [if_neg c, if_neg (fun d => c (h1.2 d))]
theorem vAt_cong {l : List S48} {s t : Int} (h : ∀ x ∈ l, x.f0 ≤ s ↔ x.f0 ≤ t) : vAt l s = vAt l t := vFrom_cong s t l 0 h
theorem up_zero {l : List Int} (h : Up l) (h0 : (0 : Int) ∈ l) (hp : ∀ p ∈ l, 0 ≤ p) : ∃ r, l = 0 :: r := by
  cases l with
  | nil => cases h0
  | cons q r =>
    refine ⟨r, ?_⟩
    rcases List.mem_cons.1 h0 with h1 | h1
    · rw [← h1]
    · have := (List.pairwise_cons.1 h).1 0 h1
      have := hp q List.mem_cons_self
      omega
theorem Valid.ge {l : List S48} (h : Valid l) : ∀ s ∈ l, 0 ≤ s.f0 := by
  obtain ⟨n, r, e⟩ := h.head
  intro s hs
  have := h.asc
  rw [e] at this hs
  rcases List.mem_cons.1 hs with rfl | hs
  · exact Int.le_refl _
  · exact Int.le_of_lt (this.gt s hs)
/-- The second list may be empty. -/
def ValidE (l : List S48) : Prop := l = [] ∨ Valid l
theorem ValidE.asc {l : List S48} (h : ValidE l) : Asc l := by
  rcases h with rfl | h
  · trivial
  · exact h.asc
theorem ValidE.ge {l : List S48} (h : ValidE l) : ∀ s ∈ l, 0 ≤ s.f0 ∧ s.f0 < FV := by
  rcases h with rfl | h
  · intro s hs; cases hs
  · exact fun s hs => ⟨h.ge s hs, h.lim s hs⟩
/-- A combined list: its places are those of the two, its values the combined values. -/
theorem comb_value {a b : List S48} {g : Int → Int → Int} {pts : List Int} {o : List S48} (ha : Valid a) (hb : ValidE b) (hm : Mg a b pts) (h : Built (fun p => g (atV a p) (atV b p)) pts o) : Valid o ∧ ∀ t, 0 ≤ t → t < FV → vAt o t = g (vAt a t) (vAt b t) := by
  have hr : ∀ p ∈ pts, 0 ≤ p ∧ p < FV := by
    intro p hp
    rcases (hm.mem p).1 hp with ⟨s, hs, rfl⟩ | ⟨s, hs, rfl⟩
    · exact ⟨ha.ge s hs, ha.lim s hs⟩
    · exact hb.ge s hs
  have h0 : (0 : Int) ∈ pts := by
    obtain ⟨n, r, e⟩ := ha.head
    exact (hm.mem 0).2 (Or.inl ⟨⟨0, n⟩, by rw [e]; exact List.mem_cons_self, rfl⟩)
  obtain ⟨r, hr0⟩ := up_zero hm.up h0 (fun p hp => (hr p hp).1)
  refine ⟨h.valid hr0 (fun p hp => (hr p hp).2), fun t ht htF => ?_⟩
  refine h.value (h := fun t => g (vAt a t) (vAt b t)) hr0 t ht (fun p hp hpt hmax => ?_)
  have hpr := hr p hp
  show g (atV a p) (atV b p) = g (vAt a t) (vAt b t)
  unfold atV
  rw [if_pos hpr, if_pos hpr]
  have e1 : vAt a p = vAt a t := vAt_cong (fun x hx => ⟨fun hh => by omega, fun hh => hmax _ ((hm.mem _).2 (Or.inl ⟨x, hx, rfl⟩)) hh⟩)
  have e2 : vAt b p = vAt b t := vAt_cong (fun x hx => ⟨fun hh => by omega, fun hh => hmax _ ((hm.mem _).2 (Or.inr ⟨x, hx, rfl⟩)) hh⟩)
  rw [e1, e2]

abbrev opAdd (x y : Int) : Int := wrap64 (x + y)
theorem combAdd_loop (a b : List S48) (hA : Asc a) (hB : Asc b) (hla : a.length < 1099511627777) (hlb : b.length < 1099511627777) (pts : List Int) (hup : Up pts) (hne : pts ≠ []) (hlen : pts.length < 4398046511104) : ∀ (rest done : List Int) (out : List S48), pts = done ++ rest → Built (fun p => opAdd (atV a p) (atV b p)) done out → out.length ≤ done.length →
    ∃ o, Built (fun p => opAdd (atV a p) (atV b p)) pts o ∧ Ev (fun k => steps_combine__58.l0 k a b out pts (pts.length : Int) (done.length : Int)) o := by
  intro rest
  induction rest with
  | nil =>
    intro done out e hb ho
    rw [List.append_nil] at e
    subst e
    have hno : out ≠ [] := by
      cases pts with
      | nil => exact absurd rfl hne
      | cons p r => obtain ⟨r', hr'⟩ := hb.first p r rfl; rw [hr']; simp
    have : 0 < out.length := List.length_pos_iff.2 hno
    exact ⟨out, hb, Ev.step (fun k => by simp only [steps_combine__58.l0]; rw [if_neg (by omega), if_neg (by omega)]) (Ev.now out)⟩
  | cons p rest ih =>
    intro done out e hb ho
    have hsl : pts.length = done.length + (rest.length + 1) := by rw [e]; simp
    have hg : rd pts (done.length : Int) = p := by rw [e, rd_mid]
    have hpw := List.pairwise_append.1 (e ▸ hup : Up (done ++ p :: rest))
    have hb2 := hb.put (p := p) (fun q hq => hpw.2.2 q hq p List.mem_cons_self)
    obtain ⟨o, h1, h2⟩ := ih (done ++ [p]) _ (by rw [e]; simp) hb2 (by have := putL_length out p (opAdd (atV a p) (atV b p)); simp; omega)
    rw [show (done ++ [p]).length = done.length + 1 by simp] at h2
    refine ⟨o, h1, ?_⟩
    refine Ev.step (fun k => by simp only [steps_combine__58.l0]; rw [if_pos (by omega), if_pos (by omega), if_pos (by omega), hg]) ?_
    refine Ev.bind (atEv a p hA (by omega)) (Ev.bind (atEv b p hB (by omega)) ?_)
    refine Ev.congr (fun k => by simp only [steps_Add_1.f, Option.bind_some]; rw [put_eq _ _ _ (by omega), Option.bind_some, wrap_nat _ (by omega)]) h2
theorem combAddEv (a b : List S48) (ha : Valid a) (hb : ValidE b) (hla : a.length < 1099511627777) (hlb : b.length < 1099511627777) : ∃ o, Ev (fun k => steps_combine__58.f k a b) o ∧ Valid o ∧ ∀ t, 0 ≤ t → t < FV → vAt o t = opAdd (vAt a t) (vAt b t) := by
  obtain ⟨P, h1, h2, h3⟩ := mergeEv a b ha.asc hb.asc hla hlb
  have hne : P ≠ [] := by
    obtain ⟨n, r, e⟩ := ha.head
    have : (0 : Int) ∈ P := (h1.mem 0).2 (Or.inl ⟨⟨0, n⟩, by rw [e]; exact List.mem_cons_self, rfl⟩)
    intro h; rw [h] at this; cases this
  obtain ⟨o, h4, h5⟩ := combAdd_loop a b ha.asc hb.asc hla hlb P h1.up hne (by omega) P [] [] rfl (Built.nil _) (by simp)
  obtain ⟨h6, h7⟩ := comb_value (g := opAdd) ha hb h1 h4
  exact ⟨o, Ev.congr (fun k => by unfold steps_combine__58.f; rfl) (Ev.bind h3 h5), h6, h7⟩

abbrev opSub (x y : Int) : Int := wrap64 (x - y)
theorem combSub_loop (a b : List S48) (hA : Asc a) (hB : Asc b) (hla : a.length < 1099511627777) (hlb : b.length < 1099511627777) (pts : List Int) (hup : Up pts) (hne : pts ≠ []) (hlen : pts.length < 4398046511104) : ∀ (rest done : List Int) (out : List S48), pts = done ++ rest → Built (fun p => opSub (atV a p) (atV b p)) done out → out.length ≤ done.length →
    ∃ o, Built (fun p => opSub (atV a p) (atV b p)) pts o ∧ Ev (fun k => steps_combine__60.l0 k a b out pts (pts.length : Int) (done.length : Int)) o := by
  intro rest
  induction rest with
  | nil =>
    intro done out e hb ho
    rw [List.append_nil] at e
    subst e
    have hno : out ≠ [] := by
      cases pts with
      | nil => exact absurd rfl hne
      | cons p r => obtain ⟨r', hr'⟩ := hb.first p r rfl; rw [hr']; simp
    have : 0 < out.length := List.length_pos_iff.2 hno
    exact ⟨out, hb, Ev.step (fun k => by simp only [steps_combine__60.l0]; rw [if_neg (by omega), if_neg (by omega)]) (Ev.now out)⟩
  | cons p rest ih =>
    intro done out e hb ho
    have hsl : pts.length = done.length + (rest.length + 1) := by rw [e]; simp
    have hg : rd pts (done.length : Int) = p := by rw [e, rd_mid]
    have hpw := List.pairwise_append.1 (e ▸ hup : Up (done ++ p :: rest))
    have hb2 := hb.put (p := p) (fun q hq => hpw.2.2 q hq p List.mem_cons_self)
    obtain ⟨o, h1, h2⟩ := ih (done ++ [p]) _ (by rw [e]; simp) hb2 (by have := putL_length out p (opSub (atV a p) (atV b p)); simp; omega)
    rw [show (done ++ [p]).length = done.length + 1 by simp] at h2
    refine ⟨o, h1, ?_⟩
    refine Ev.step (fun k => by simp only [steps_combine__60.l0]; rw [if_pos (by omega), if_pos (by omega), if_pos (by omega), hg]) ?_
    refine Ev.bind (atEv a p hA (by omega)) (Ev.bind (atEv b p hB (by omega)) ?_)
    refine Ev.congr (fun k => by simp only [steps_Sub_1.f, Option.bind_some]; rw [put_eq _ _ _ (by omega), Option.bind_some, wrap_nat _ (by omega)]) h2
theorem combSubEv (a b : List S48) (ha : Valid a) (hb : ValidE b) (hla : a.length < 1099511627777) (hlb : b.length < 1099511627777) : ∃ o, Ev (fun k => steps_combine__60.f k a b) o ∧ Valid o ∧ ∀ t, 0 ≤ t → t < FV → vAt o t = opSub (vAt a t) (vAt b t) := by
  obtain ⟨P, h1, h2, h3⟩ := mergeEv a b ha.asc hb.asc hla hlb
  have hne : P ≠ [] := by
    obtain ⟨n, r, e⟩ := ha.head
    have : (0 : Int) ∈ P := (h1.mem 0).2 (Or.inl ⟨⟨0, n⟩, by rw [e]; exact List.mem_cons_self, rfl⟩)
    intro h; rw [h] at this; cases this
  obtain ⟨o, h4, h5⟩ := combSub_loop a b ha.asc hb.asc hla hlb P h1.up hne (by omega) P [] [] rfl (Built.nil _) (by simp)
  obtain ⟨h6, h7⟩ := comb_value (g := opSub) ha hb h1 h4
  exact ⟨o, Ev.congr (fun k => by unfold steps_combine__60.f; rfl) (Ev.bind h3 h5), h6, h7⟩

abbrev opMin (x y : Int) : Int := mn x y
theorem combMin_loop (a b : List S48) (hA : Asc a) (hB : Asc b) (hla : a.length < 1099511627777) (hlb : b.length < 1099511627777) (pts : List Int) (hup : Up pts) (hne : pts ≠ []) (hlen : pts.length < 4398046511104) : ∀ (rest done : List Int) (out : List S48), pts = done ++ rest → Built (fun p => opMin (atV a p) (atV b p)) done out → out.length ≤ done.length →
    ∃ o, Built (fun p => opMin (atV a p) (atV b p)) pts o ∧ Ev (fun k => steps_combine__61.l0 k a b out pts (pts.length : Int) (done.length : Int)) o := by
  intro rest
  induction rest with
  | nil =>
    intro done out e hb ho
    rw [List.append_nil] at e
    subst e
    have hno : out ≠ [] := by
      cases pts with
      | nil => exact absurd rfl hne
      | cons p r => obtain ⟨r', hr'⟩ := hb.first p r rfl; rw [hr']; simp
    have : 0 < out.length := List.length_pos_iff.2 hno
    exact ⟨out, hb, Ev.step (fun k => by simp only [steps_combine__61.l0]; rw [if_neg (by omega), if_neg (by omega)]) (Ev.now out)⟩
  | cons p rest ih =>
    intro done out e hb ho
    have hsl : pts.length = done.length + (rest.length + 1) := by rw [e]; simp
    have hg : rd pts (done.length : Int) = p := by rw [e, rd_mid]
    have hpw := List.pairwise_append.1 (e ▸ hup : Up (done ++ p :: rest))
    have hb2 := hb.put (p := p) (fun q hq => hpw.2.2 q hq p List.mem_cons_self)
    obtain ⟨o, h1, h2⟩ := ih (done ++ [p]) _ (by rw [e]; simp) hb2 (by have := putL_length out p (opMin (atV a p) (atV b p)); simp; omega)
    rw [show (done ++ [p]).length = done.length + 1 by simp] at h2
    refine ⟨o, h1, ?_⟩
    refine Ev.step (fun k => by simp only [steps_combine__61.l0]; rw [if_pos (by omega), if_pos (by omega), if_pos (by omega), hg]) ?_
    refine Ev.bind (atEv a p hA (by omega)) (Ev.bind (atEv b p hB (by omega)) ?_)
    refine Ev.congr (fun k => by simp only [steps_Min_1.f, Option.bind_some]; rw [put_eq _ _ _ (by omega), Option.bind_some, wrap_nat _ (by omega)]) h2
theorem combMinEv (a b : List S48) (ha : Valid a) (hb : ValidE b) (hla : a.length < 1099511627777) (hlb : b.length < 1099511627777) : ∃ o, Ev (fun k => steps_combine__61.f k a b) o ∧ Valid o ∧ ∀ t, 0 ≤ t → t < FV → vAt o t = opMin (vAt a t) (vAt b t) := by
  obtain ⟨P, h1, h2, h3⟩ := mergeEv a b ha.asc hb.asc hla hlb
  have hne : P ≠ [] := by
    obtain ⟨n, r, e⟩ := ha.head
    have : (0 : Int) ∈ P := (h1.mem 0).2 (Or.inl ⟨⟨0, n⟩, by rw [e]; exact List.mem_cons_self, rfl⟩)
    intro h; rw [h] at this; cases this
  obtain ⟨o, h4, h5⟩ := combMin_loop a b ha.asc hb.asc hla hlb P h1.up hne (by omega) P [] [] rfl (Built.nil _) (by simp)
  obtain ⟨h6, h7⟩ := comb_value (g := opMin) ha hb h1 h4
  exact ⟨o, Ev.congr (fun k => by unfold steps_combine__61.f; rfl) (Ev.bind h3 h5), h6, h7⟩

abbrev opMax (x y : Int) : Int := mx x y
theorem combMax_loop (a b : List S48) (hA : Asc a) (hB : Asc b) (hla : a.length < 1099511627777) (hlb : b.length < 1099511627777) (pts : List Int) (hup : Up pts) (hne : pts ≠ []) (hlen : pts.length < 4398046511104) : ∀ (rest done : List Int) (out : List S48), pts = done ++ rest → Built (fun p => opMax (atV a p) (atV b p)) done out → out.length ≤ done.length →
    ∃ o, Built (fun p => opMax (atV a p) (atV b p)) pts o ∧ Ev (fun k => steps_combine__62.l0 k a b out pts (pts.length : Int) (done.length : Int)) o := by
  intro rest
  induction rest with
  | nil =>
    intro done out e hb ho
    rw [List.append_nil] at e
    subst e
    have hno : out ≠ [] := by
      cases pts with
      | nil => exact absurd rfl hne
      | cons p r => obtain ⟨r', hr'⟩ := hb.first p r rfl; rw [hr']; simp
    have : 0 < out.length := List.length_pos_iff.2 hno
    exact ⟨out, hb, Ev.step (fun k => by simp only [steps_combine__62.l0]; rw [if_neg (by omega), if_neg (by omega)]) (Ev.now out)⟩
  | cons p rest ih =>
    intro done out e hb ho
    have hsl : pts.length = done.length + (rest.length + 1) := by rw [e]; simp
    have hg : rd pts (done.length : Int) = p := by rw [e, rd_mid]
    have hpw := List.pairwise_append.1 (e ▸ hup : Up (done ++ p :: rest))
    have hb2 := hb.put (p := p) (fun q hq => hpw.2.2 q hq p List.mem_cons_self)
    obtain ⟨o, h1, h2⟩ := ih (done ++ [p]) _ (by rw [e]; simp) hb2 (by have := putL_length out p (opMax (atV a p) (atV b p)); simp; omega)
    rw [show (done ++ [p]).length = done.length + 1 by simp] at h2
    refine ⟨o, h1, ?_⟩
    refine Ev.step (fun k => by simp only [steps_combine__62.l0]; rw [if_pos (by omega), if_pos (by omega), if_pos (by omega), hg]) ?_
    refine Ev.bind (atEv a p hA (by omega)) (Ev.bind (atEv b p hB (by omega)) ?_)
    refine Ev.congr (fun k => by simp only [steps_Max_1.f, Option.bind_some]; rw [put_eq _ _ _ (by omega), Option.bind_some, wrap_nat _ (by omega)]) h2
theorem combMaxEv (a b : List S48) (ha : Valid a) (hb : ValidE b) (hla : a.length < 1099511627777) (hlb : b.length < 1099511627777) : ∃ o, Ev (fun k => steps_combine__62.f k a b) o ∧ Valid o ∧ ∀ t, 0 ≤ t → t < FV → vAt o t = opMax (vAt a t) (vAt b t) := by
  obtain ⟨P, h1, h2, h3⟩ := mergeEv a b ha.asc hb.asc hla hlb
  have hne : P ≠ [] := by
    obtain ⟨n, r, e⟩ := ha.head
    have : (0 : Int) ∈ P := (h1.mem 0).2 (Or.inl ⟨⟨0, n⟩, by rw [e]; exact List.mem_cons_self, rfl⟩)
    intro h; rw [h] at this; cases this
  obtain ⟨o, h4, h5⟩ := combMax_loop a b ha.asc hb.asc hla hlb P h1.up hne (by omega) P [] [] rfl (Built.nil _) (by simp)
  obtain ⟨h6, h7⟩ := comb_value (g := opMax) ha hb h1 h4
  exact ⟨o, Ev.congr (fun k => by unfold steps_combine__62.f; rfl) (Ev.bind h3 h5), h6, h7⟩

abbrev opClip (x y : Int) : Int := mx x 0
theorem combClip_loop (a b : List S48) (hA : Asc a) (hB : Asc b) (hla : a.length < 1099511627777) (hlb : b.length < 1099511627777) (pts : List Int) (hup : Up pts) (hne : pts ≠ []) (hlen : pts.length < 4398046511104) : ∀ (rest done : List Int) (out : List S48), pts = done ++ rest → Built (fun p => opClip (atV a p) (atV b p)) done out → out.length ≤ done.length →
    ∃ o, Built (fun p => opClip (atV a p) (atV b p)) pts o ∧ Ev (fun k => steps_combine__63.l0 k a b out pts (pts.length : Int) (done.length : Int)) o := by
  intro rest
  induction rest with
  | nil =>
    intro done out e hb ho
    rw [List.append_nil] at e
    subst e
    have hno : out ≠ [] := by
      cases pts with
      | nil => exact absurd rfl hne
      | cons p r => obtain ⟨r', hr'⟩ := hb.first p r rfl; rw [hr']; simp
    have : 0 < out.length := List.length_pos_iff.2 hno
    exact ⟨out, hb, Ev.step (fun k => by simp only [steps_combine__63.l0]; rw [if_neg (by omega), if_neg (by omega)]) (Ev.now out)⟩
  | cons p rest ih =>
    intro done out e hb ho
    have hsl : pts.length = done.length + (rest.length + 1) := by rw [e]; simp
    have hg : rd pts (done.length : Int) = p := by rw [e, rd_mid]
    have hpw := List.pairwise_append.1 (e ▸ hup : Up (done ++ p :: rest))
    have hb2 := hb.put (p := p) (fun q hq => hpw.2.2 q hq p List.mem_cons_self)
    obtain ⟨o, h1, h2⟩ := ih (done ++ [p]) _ (by rw [e]; simp) hb2 (by have := putL_length out p (opClip (atV a p) (atV b p)); simp; omega)
    rw [show (done ++ [p]).length = done.length + 1 by simp] at h2
    refine ⟨o, h1, ?_⟩
    refine Ev.step (fun k => by simp only [steps_combine__63.l0]; rw [if_pos (by omega), if_pos (by omega), if_pos (by omega), hg]) ?_
    refine Ev.bind (atEv a p hA (by omega)) (Ev.bind (atEv b p hB (by omega)) ?_)
    refine Ev.congr (fun k => by simp only [steps_Clip_1.f, Option.bind_some]; rw [put_eq _ _ _ (by omega), Option.bind_some, wrap_nat _ (by omega)]) h2
theorem combClipEv (a b : List S48) (ha : Valid a) (hb : ValidE b) (hla : a.length < 1099511627777) (hlb : b.length < 1099511627777) : ∃ o, Ev (fun k => steps_combine__63.f k a b) o ∧ Valid o ∧ ∀ t, 0 ≤ t → t < FV → vAt o t = opClip (vAt a t) (vAt b t) := by
  obtain ⟨P, h1, h2, h3⟩ := mergeEv a b ha.asc hb.asc hla hlb
  have hne : P ≠ [] := by
    obtain ⟨n, r, e⟩ := ha.head
    have : (0 : Int) ∈ P := (h1.mem 0).2 (Or.inl ⟨⟨0, n⟩, by rw [e]; exact List.mem_cons_self, rfl⟩)
    intro h; rw [h] at this; cases this
  obtain ⟨o, h4, h5⟩ := combClip_loop a b ha.asc hb.asc hla hlb P h1.up hne (by omega) P [] [] rfl (Built.nil _) (by simp)
  obtain ⟨h6, h7⟩ := comb_value (g := opClip) ha hb h1 h4
  exact ⟨o, Ev.congr (fun k => by unfold steps_combine__63.f; rfl) (Ev.bind h3 h5), h6, h7⟩

/-- What the reference reckons of two values. -/
def opR (n x y : Int) : Int := if n = 1 then wrap64 (x + y) else if n = 2 then wrap64 (x - y) else if n = 3 then mn x y else mx x y
theorem value_eq (n x y : Int) : bitemporalref04_value.f n x y = some (opR n x y) := by
  unfold bitemporalref04_value.f opR
  split
  · rfl
  · split
    · rfl
    · split <;> rfl
theorem rcomb_l2 (n : Int) (a b : List S48) (hla : a.length < 1099511627777) (hlb : b.length < 1099511627777) (pts : List Int) (hup : Up pts) (hlen : pts.length < 4398046511104) : ∀ (rest done : List Int) (out : List S48), pts = done ++ rest → Built (fun p => opR n (atV a p) (atV b p)) done out → out.length ≤ done.length →
    ∃ o, Built (fun p => opR n (atV a p) (atV b p)) pts o ∧ Ev (fun k => bitemporalref04_combined.l2 k n a b pts out (done.length : Int)) o := by
  intro rest
  induction rest with
  | nil =>
    intro done out e hb ho
    rw [List.append_nil] at e
    subst e
    exact ⟨out, hb, Ev.step (fun k => by simp only [bitemporalref04_combined.l2]; rw [if_neg (by omega)]) (Ev.now out)⟩
  | cons p rest ih =>
    intro done out e hb ho
    have hsl : pts.length = done.length + (rest.length + 1) := by rw [e]; simp
    have hg : rd pts (done.length : Int) = p := by rw [e, rd_mid]
    have hpw := List.pairwise_append.1 (e ▸ hup : Up (done ++ p :: rest))
    have hb2 := hb.put (p := p) (fun q hq => hpw.2.2 q hq p List.mem_cons_self)
    obtain ⟨o, h1, h2⟩ := ih (done ++ [p]) _ (by rw [e]; simp) hb2 (by have := putL_length out p (opR n (atV a p) (atV b p)); simp; omega)
    rw [show (done ++ [p]).length = done.length + 1 by simp] at h2
    refine ⟨o, h1, ?_⟩
    refine Ev.step (fun k => by simp only [bitemporalref04_combined.l2]; rw [if_pos (by omega), if_pos (by omega), hg]) ?_
    refine Ev.bind (ratEv a p (by omega)) (Ev.bind (ratEv b p (by omega)) ?_)
    refine Ev.congr (fun k => by rw [value_eq, Option.bind_some, rput_eq _ _ _ (by omega), Option.bind_some, wrap_nat _ (by omega)]) h2
theorem rcomb_l1 (n : Int) (a b : List S48) (hlb : b.length < 1099511627777) : ∀ (rest done : List S48) (pts : List Int), b = done ++ rest → Mg a done pts → pts.length ≤ a.length + done.length → a.length < 1099511627777 →
    ∃ P, Mg a b P ∧ P.length ≤ a.length + b.length ∧ ∀ R, Ev (fun k => bitemporalref04_combined.l2 k n a b P [] 0) R → Ev (fun k => bitemporalref04_combined.l1 k n a b pts (done.length : Int)) R := by
  intro rest
  induction rest with
  | nil =>
    intro done pts e hm hp hla
    rw [List.append_nil] at e
    subst e
    exact ⟨pts, hm, hp, fun R h => Ev.step (fun k => by simp only [bitemporalref04_combined.l1]; rw [if_neg (by omega)]) h⟩
  | cons s rest ih =>
    intro done pts e hm hp hla
    have hsl : b.length = done.length + (rest.length + 1) := by rw [e]; simp
    have hg : rd_T48 b (done.length : Int) = s := by rw [e, rd48_mid]
    have := ins_length pts s.f0
    obtain ⟨P, h1, h2, h3⟩ := ih (done ++ [s]) (ins pts s.f0) (by rw [e]; simp) ⟨ins_up _ _ hm.up, fun x => by
      rw [ins_mem, hm.mem x]
      constructor
      · rintro (rfl | h | ⟨u, hu, rfl⟩)
        · exact Or.inr ⟨s, by simp, rfl⟩
        · exact Or.inl h
        · exact Or.inr ⟨u, by simp [hu], rfl⟩
      · rintro (h | ⟨u, hu, rfl⟩)
        · exact Or.inr (Or.inl h)
        · rcases List.mem_append.1 hu with hu | hu
          · exact Or.inr (Or.inr ⟨u, hu, rfl⟩)
          · rw [List.mem_singleton.1 hu]; exact Or.inl rfl⟩ (by simp; omega) hla
    refine ⟨P, h1, h2, fun R h => ?_⟩
    have h4 := h3 R h
    rw [show (done ++ [s]).length = done.length + 1 by simp] at h4
    refine Ev.step (fun k => by simp only [bitemporalref04_combined.l1]; rw [if_pos (by omega), if_pos (by omega), hg, wrap_nat _ (by omega)]) ?_
    exact Ev.bind (insEv pts _ (by omega)) h4
theorem rcomb_l0 (n : Int) (a b : List S48) (hla : a.length < 1099511627777) (hlb : b.length < 1099511627777) : ∀ (rest done : List S48) (pts : List Int), a = done ++ rest → Mg done [] pts → pts.length ≤ done.length →
    ∃ P, Mg a b P ∧ P.length ≤ a.length + b.length ∧ ∀ R, Ev (fun k => bitemporalref04_combined.l2 k n a b P [] 0) R → Ev (fun k => bitemporalref04_combined.l0 k n a b pts (done.length : Int)) R := by
  intro rest
  induction rest with
  | nil =>
    intro done pts e hm hp
    rw [List.append_nil] at e
    subst e
    obtain ⟨P, h1, h2, h3⟩ := rcomb_l1 n a b hlb b [] pts rfl hm (by simpa using hp) hla
    exact ⟨P, h1, h2, fun R h => Ev.step (fun k => by simp only [bitemporalref04_combined.l0]; rw [if_neg (by omega)]; rfl) (h3 R h)⟩
  | cons s rest ih =>
    intro done pts e hm hp
    have hsl : a.length = done.length + (rest.length + 1) := by rw [e]; simp
    have hg : rd_T48 a (done.length : Int) = s := by rw [e, rd48_mid]
    have := ins_length pts s.f0
    obtain ⟨P, h1, h2, h3⟩ := ih (done ++ [s]) (ins pts s.f0) (by rw [e]; simp) ⟨ins_up _ _ hm.up, fun x => by
      rw [ins_mem, hm.mem x]
      constructor
      · rintro (rfl | ⟨u, hu, rfl⟩ | h)
        · exact Or.inl ⟨s, by simp, rfl⟩
        · exact Or.inl ⟨u, by simp [hu], rfl⟩
        · exact Or.inr h
      · rintro (⟨u, hu, rfl⟩ | h)
        · rcases List.mem_append.1 hu with hu | hu
          · exact Or.inr (Or.inl ⟨u, hu, rfl⟩)
          · rw [List.mem_singleton.1 hu]; exact Or.inl rfl
        · exact Or.inr (Or.inr h)⟩ (by simp; omega)
    refine ⟨P, h1, h2, fun R h => ?_⟩
    have h4 := h3 R h
    rw [show (done ++ [s]).length = done.length + 1 by simp] at h4
    refine Ev.step (fun k => by simp only [bitemporalref04_combined.l0]; rw [if_pos (by omega), if_pos (by omega), hg, wrap_nat _ (by omega)]) ?_
    exact Ev.bind (insEv pts _ (by omega)) h4
theorem rcombEv (n : Int) (a b : List S48) (ha : Valid a) (hb : ValidE b) (hla : a.length < 1099511627777) (hlb : b.length < 1099511627777) : ∃ o, Ev (fun k => bitemporalref04_combined.f k n a b) o ∧ Valid o ∧ ∀ t, 0 ≤ t → t < FV → vAt o t = opR n (vAt a t) (vAt b t) := by
  obtain ⟨P, h1, h2, h3⟩ := rcomb_l0 n a b hla hlb a [] [] rfl ⟨by simp, fun x => by simp⟩ (by simp)
  obtain ⟨o, h4, h5⟩ := rcomb_l2 n a b hla hlb P h1.up (by omega) P [] [] rfl (Built.nil _) (by simp)
  obtain ⟨h6, h7⟩ := comb_value (g := opR n) ha hb h1 h4
  exact ⟨o, h3 o h5, h6, h7⟩

/-- Both lists of the Add are one. -/
theorem bothAdd (a b : List S48) (ha : Valid a) (hb : Valid b) (hla : a.length < 1099511627777) (hlb : b.length < 1099511627777) : ∃ o, Ev (fun k => steps_Add.f k a b) o ∧ Ev (fun k => bitemporalref04_Add.f k a b) o ∧ Valid o ∧ ∀ t, 0 ≤ t → t < FV → vAt o t = opAdd (vAt a t) (vAt b t) := by
  obtain ⟨o, h1, h2, h3⟩ := combAddEv a b ha (Or.inr hb) hla hlb
  obtain ⟨o', h1', h2', h3'⟩ := rcombEv 1 a b ha (Or.inr hb) hla hlb
  have e : o = o' := h2.uniq h2' (fun t x y => by rw [h3 t x y, h3' t x y]; simp [opR, opAdd])
  subst e
  exact ⟨o, Ev.congr (fun k => by unfold steps_Add.f; rfl) (Ev.bind h1 (Ev.now o)), Ev.congr (fun k => by unfold bitemporalref04_Add.f; rfl) (Ev.bind h1' (Ev.now o)), h2, h3⟩

/-- Both lists of the Sub are one. -/
theorem bothSub (a b : List S48) (ha : Valid a) (hb : Valid b) (hla : a.length < 1099511627777) (hlb : b.length < 1099511627777) : ∃ o, Ev (fun k => steps_Sub.f k a b) o ∧ Ev (fun k => bitemporalref04_Sub.f k a b) o ∧ Valid o ∧ ∀ t, 0 ≤ t → t < FV → vAt o t = opSub (vAt a t) (vAt b t) := by
  obtain ⟨o, h1, h2, h3⟩ := combSubEv a b ha (Or.inr hb) hla hlb
  obtain ⟨o', h1', h2', h3'⟩ := rcombEv 2 a b ha (Or.inr hb) hla hlb
  have e : o = o' := h2.uniq h2' (fun t x y => by rw [h3 t x y, h3' t x y]; simp [opR, opSub])
  subst e
  exact ⟨o, Ev.congr (fun k => by unfold steps_Sub.f; rfl) (Ev.bind h1 (Ev.now o)), Ev.congr (fun k => by unfold bitemporalref04_Sub.f; rfl) (Ev.bind h1' (Ev.now o)), h2, h3⟩

/-- Both lists of the Min are one. -/
theorem bothMin (a b : List S48) (ha : Valid a) (hb : Valid b) (hla : a.length < 1099511627777) (hlb : b.length < 1099511627777) : ∃ o, Ev (fun k => steps_Min.f k a b) o ∧ Ev (fun k => bitemporalref04_Min.f k a b) o ∧ Valid o ∧ ∀ t, 0 ≤ t → t < FV → vAt o t = opMin (vAt a t) (vAt b t) := by
  obtain ⟨o, h1, h2, h3⟩ := combMinEv a b ha (Or.inr hb) hla hlb
  obtain ⟨o', h1', h2', h3'⟩ := rcombEv 3 a b ha (Or.inr hb) hla hlb
  have e : o = o' := h2.uniq h2' (fun t x y => by rw [h3 t x y, h3' t x y]; simp [opR, opMin])
  subst e
  exact ⟨o, Ev.congr (fun k => by unfold steps_Min.f; rfl) (Ev.bind h1 (Ev.now o)), Ev.congr (fun k => by unfold bitemporalref04_Min.f; rfl) (Ev.bind h1' (Ev.now o)), h2, h3⟩

/-- Both lists of the Max are one. -/
theorem bothMax (a b : List S48) (ha : Valid a) (hb : Valid b) (hla : a.length < 1099511627777) (hlb : b.length < 1099511627777) : ∃ o, Ev (fun k => steps_Max.f k a b) o ∧ Ev (fun k => bitemporalref04_Max.f k a b) o ∧ Valid o ∧ ∀ t, 0 ≤ t → t < FV → vAt o t = opMax (vAt a t) (vAt b t) := by
  obtain ⟨o, h1, h2, h3⟩ := combMaxEv a b ha (Or.inr hb) hla hlb
  obtain ⟨o', h1', h2', h3'⟩ := rcombEv 4 a b ha (Or.inr hb) hla hlb
  have e : o = o' := h2.uniq h2' (fun t x y => by rw [h3 t x y, h3' t x y]; simp [opR, opMax])
  subst e
  exact ⟨o, Ev.congr (fun k => by unfold steps_Max.f; rfl) (Ev.bind h1 (Ev.now o)), Ev.congr (fun k => by unfold bitemporalref04_Max.f; rfl) (Ev.bind h1' (Ev.now o)), h2, h3⟩

theorem flat_valid : Valid [(⟨0, 0⟩ : S48)] := ⟨trivial, ⟨0, [], rfl⟩, fun s hs => by rw [List.mem_singleton.1 hs]; decide⟩
theorem flat_at (t : Int) : vAt [(⟨0, 0⟩ : S48)] t = 0 := by unfold vAt; rw [vFrom_cons, vFrom_nil]; split <;> rfl
theorem bothClip (a : List S48) (ha : Valid a) (hla : a.length < 1099511627777) : ∃ o, Ev (fun k => steps_Clip.f k a) o ∧ Ev (fun k => bitemporalref04_Clip.f k a) o ∧ Valid o ∧ ∀ t, 0 ≤ t → t < FV → vAt o t = mx (vAt a t) 0 := by
  obtain ⟨o, h1, h2, h3⟩ := combClipEv a [] ha (Or.inl rfl) hla (by simp)
  obtain ⟨o', h1', h2', h3'⟩ := rcombEv 4 a [⟨0, 0⟩] ha (Or.inr flat_valid) hla (by simp)
  have e : o = o' := h2.uniq h2' (fun t x y => by rw [h3 t x y, h3' t x y, flat_at]; simp [opR, opClip])
  subst e
  refine ⟨o, Ev.congr (fun k => by unfold steps_Clip.f; rfl) (Ev.bind h1 (Ev.now o)), ?_, h2, h3⟩
  refine Ev.congr (fun k => by unfold bitemporalref04_Clip.f bitemporalref04_Max.f; rfl) ?_
  exact Ev.bind (g := fun k => (bitemporalref04_combined.f k 4 a [⟨0, 0⟩]).bind fun t => some t) (Ev.bind h1' (Ev.now o)) (Ev.now o)
end Go.Proofs.Ytapfdhaohgkjeaa.Q
end

/- Step functions, plainly: the value at an instant, valid lists, and that a valid list is told by its values. -/
import Derived.Test.YtapfdhaohgkjeaaHAll
import Derived.Test.YtapfdhaohgkjeaaXPx4
import Derived.Test.YtapfdhaohgkjeaaXPx11
import Derived.Test.YtapfdhaohgkjeaaXPx9
import Derived.Test.YtapfdhaohgkjeaaXPx12
section
namespace Go.Proofs.Ytapfdhaohgkjeaa.Q
open Go.RowKit Go.Proofs.YtapfdhaohgkjeaaW.PrintWords Go.Proofs.Ytapfdhaohgkjeaa.XP
/-- One past the last instant. -/
abbrev FV : Int := 1099511627776
/-- The value, from n on. -/
def vFrom (t : Int) (n : Int) (l : List S48) : Int := l.foldl (fun n s => if s.f0 ≤ t then s.f1 else n) n
def vAt (l : List S48) (t : Int) : Int := vFrom t 0 l
theorem vFrom_cons (t n : Int) (s : S48) (r : List S48) : vFrom t n (s :: r) = vFrom t (if s.f0 ≤ t then s.f1 else n) r := rfl
theorem vFrom_snoc (t n : Int) (l : List S48) (s : S48) : vFrom t n (l ++ [s]) = if s.f0 ≤ t then s.f1 else vFrom t n l := by
  unfold vFrom; rw [List.foldl_append]; rfl
theorem vAt_snoc (l : List S48) (s : S48) (t : Int) : vAt (l ++ [s]) t = if s.f0 ≤ t then s.f1 else vAt l t := vFrom_snoc _ _ _ _
theorem vFrom_late (t n : Int) : ∀ l : List S48, (∀ s ∈ l, t < s.f0) → vFrom t n l = n
  | [], _ => rfl
  | s :: r, h => by
    have := h s List.mem_cons_self
    rw [vFrom_cons, if_neg (by omega), vFrom_late t n r (fun x hx => h x (List.mem_cons_of_mem _ hx))]
/-- Ascending, and neighbours differ. -/
def Asc : List S48 → Prop
  | [] => True
  | [_] => True
  | a :: b :: r => a.f0 < b.f0 ∧ a.f1 ≠ b.f1 ∧ Asc (b :: r)
theorem Asc.tail {a : S48} {r : List S48} (h : Asc (a :: r)) : Asc r := by
  cases r with
  | nil => trivial
  | cons b r => exact h.2.2
theorem Asc.gt {a : S48} : ∀ {r : List S48}, Asc (a :: r) → ∀ s ∈ r, a.f0 < s.f0
  | [], _, s, hs => by cases hs
  | b :: r, h, s, hs => by
    rcases List.mem_cons.1 hs with rfl | hs
    · exact h.1
    · have := Asc.gt h.2.2 s hs
      have := h.1
      omega
/-- A valid list of steps. -/
structure Valid (l : List S48) : Prop where
  asc : Asc l
  head : ∃ n r, l = ⟨0, n⟩ :: r
  lim : ∀ s ∈ l, s.f0 < FV
theorem Asc.length : ∀ {l : List S48} {a : S48} {r : List S48}, l = a :: r → Asc l → (∀ s ∈ l, s.f0 < FV) → (l.length : Int) ≤ FV - a.f0
  | [], _, _, h, _, _ => by cases h
  | [b], a, r, h, _, hF => by
    have := hF b List.mem_cons_self
    cases h
    show (1 : Int) ≤ _
    omega
  | b :: c :: r', a, r, h, hA, hF => by
    have := Asc.length (l := c :: r') rfl hA.tail (fun s hs => hF s (List.mem_cons_of_mem _ hs))
    have := hA.1
    cases h
    simp only [List.length_cons] at *
    omega
theorem Valid.length {l : List S48} (h : Valid l) : l.length ≤ 1099511627776 := by
  obtain ⟨n, r, e⟩ := h.head
  have := Asc.length e h.asc h.lim
  simp only [FV] at this
  omega
theorem Asc.snoc : ∀ {l : List S48} {s : S48}, Asc l → (∀ a, l.getLast? = some a → a.f0 < s.f0 ∧ a.f1 ≠ s.f1) → Asc (l ++ [s])
  | [], _, _, _ => trivial
  | [a], s, _, h => ⟨(h a rfl).1, (h a rfl).2, trivial⟩
  | a :: b :: r, s, h, hl => ⟨h.1, h.2.1, Asc.snoc (l := b :: r) h.2.2 (fun x hx => hl x (by rw [List.getLast?_cons_cons]; exact hx))⟩
theorem vAt_last {l : List S48} {a : S48} {t : Int} (h : l.getLast? = some a) (ht : a.f0 ≤ t) : vAt l t = a.f1 := by
  obtain ⟨r, rfl⟩ := List.getLast?_eq_some_iff.1 h
  rw [vAt_snoc, if_pos ht]
/-- A step is put behind, unless the value stays. -/
def putL (l : List S48) (p n : Int) : List S48 := match l.getLast? with
  | none => l ++ [⟨p, n⟩]
  | some a => if a.f1 = n then l else l ++ [⟨p, n⟩]
theorem putL_at {l : List S48} {p n : Int} (h : ∀ a, l.getLast? = some a → a.f0 ≤ p) (t : Int) : vAt (putL l p n) t = if p ≤ t then n else vAt l t := by
  unfold putL
  cases e : l.getLast? with
  | none => exact vAt_snoc _ _ _
  | some a =>
    simp only
    by_cases c : a.f1 = n
    · rw [if_pos c]
      by_cases ht : p ≤ t
      · rw [if_pos ht, vAt_last e (by have := h a e; omega), c]
      · rw [if_neg ht]
    · rw [if_neg c]; exact vAt_snoc _ _ _
theorem putL_asc {l : List S48} {p n : Int} (hA : Asc l) (h : ∀ a, l.getLast? = some a → a.f0 < p) : Asc (putL l p n) := by
  unfold putL
  cases e : l.getLast? with
  | none => exact hA.snoc (fun a ha => by rw [e] at ha; cases ha)
  | some a =>
    simp only
    by_cases c : a.f1 = n
    · rw [if_pos c]; exact hA
    · rw [if_neg c]; exact hA.snoc (fun b hb => by rw [e] at hb; cases hb; exact ⟨h a e, c⟩)
theorem putL_mem {l : List S48} {p n : Int} {s : S48} (h : s ∈ putL l p n) : s ∈ l ∨ s = ⟨p, n⟩ := by
  unfold putL at h
  cases e : l.getLast? with
  | none => rw [e] at h; simpa using h
  | some a =>
    rw [e] at h
    simp only at h
    by_cases c : a.f1 = n
    · rw [if_pos c] at h; exact Or.inl h
    · rw [if_neg c] at h; simpa using h
theorem putL_head {l : List S48} {p n : Int} {s : S48} {r : List S48} (h : l = s :: r) : ∃ r', putL l p n = s :: r' := by
  subst h
  unfold putL
  split
  · exact ⟨r ++ [⟨p, n⟩], rfl⟩
  · split
    · exact ⟨r, rfl⟩
    · exact ⟨r ++ [⟨p, n⟩], rfl⟩
/-- The steps at ascending places. -/
def build (g : Int → Int) (ps : List Int) : List S48 := ps.foldl (fun o p => putL o p (g p)) []
structure Built (g : Int → Int) (ps : List Int) (l : List S48) : Prop where
  asc : Asc l
  mem : ∀ s ∈ l, s.f0 ∈ ps
  at_ : ∀ t p, p ∈ ps → p ≤ t → (∀ q ∈ ps, q ≤ t → q ≤ p) → vAt l t = g p
  first : ∀ p r, ps = p :: r → ∃ r', l = ⟨p, g p⟩ :: r'
theorem Built.put {g : Int → Int} {ps : List Int} {l : List S48} (h : Built g ps l) {p : Int} (hp : ∀ q ∈ ps, q < p) : Built g (ps ++ [p]) (putL l p (g p)) := by
  have hl : ∀ a, l.getLast? = some a → a.f0 < p := fun a ha => hp _ (h.mem a (List.mem_of_getLast? ha))
  refine ⟨putL_asc h.asc hl, fun s hs => ?_, fun t q hq hqt hmax => ?_, fun q r e => ?_⟩
  · rcases putL_mem hs with hs | rfl
    · exact List.mem_append_left _ (h.mem s hs)
    · simp
  · rw [putL_at (fun a ha => by have := hl a ha; omega)]
    by_cases c : p ≤ t
    · rw [if_pos c]
      have h1 := hmax p (by simp) c
      rcases List.mem_append.1 hq with hq | hq
      · have := hp q hq; omega
      · rw [List.mem_singleton.1 hq]
    · rw [if_neg c]
      rcases List.mem_append.1 hq with hq | hq
      · exact h.at_ t q hq hqt (fun x hx hxt => hmax x (List.mem_append_left _ hx) hxt)
      · have := List.mem_singleton.1 hq; omega
  · cases ps with
    | nil =>
      have : p = q := by simpa using congrArg List.head? e
      subst this
      cases l with
      | nil => exact ⟨[], rfl⟩
      | cons s r => have := h.mem s List.mem_cons_self; cases this
    | cons x xs =>
      have : x = q := by simpa using congrArg List.head? e
      subst this
      obtain ⟨r', hr⟩ := h.first x xs rfl
      exact putL_head hr
end Go.Proofs.Ytapfdhaohgkjeaa.Q
end
/- steps.Of, plainly: a valid list whose value is the sum of the pieces that hold the instant. -/
section
namespace Go.Proofs.Ytapfdhaohgkjeaa.Q
open Go.RowKit Go.Proofs.YtapfdhaohgkjeaaW.PrintWords Go.Proofs.Ytapfdhaohgkjeaa.XP
set_option linter.unusedVariables false
theorem wrap_nat (i : Nat) (h : i < 4611686018427387904) : wrap64 ((i : Int) + 1) = ((i + 1 : Nat) : Int) := by unfold wrap64; omega
theorem wrap_pred (i : Nat) (h : i < 4611686018427387904) : wrap64 (((i + 1 : Nat) : Int) - 1) = (i : Int) := by unfold wrap64; omega
theorem rd48_nat (l : List S48) (i : Nat) : rd_T48 l (i : Int) = l.getD i z48 := by unfold rd_T48; rw [Int.toNat_natCast]
theorem getD_mid {α : Type} (a : List α) (x : α) (b : List α) (d : α) : (a ++ x :: b).getD a.length d = x := by simp
/-- A period is valid. -/
abbrev okP (p : S38) : Prop := 0 ≤ p.f0 ∧ p.f0 < p.f1 ∧ p.f1 ≤ FV
/-- The changes of a piece. -/
def chg (c : S40) : List S48 := if okP c.f0 then [⟨c.f0.f0, c.f1⟩, ⟨c.f0.f1, wrap64 (-c.f1)⟩] else []
def sumF : List S48 → Int
  | [] => 0
  | s :: r => s.f1 + sumF r
/-- The sum of the changes up to p. -/
def upto (S : List S48) (p : Int) : Int := sumF (S.filter (fun s => s.f0 ≤ p))
def Sorted (S : List S48) : Prop := S.Pairwise (fun a b => a.f0 ≤ b.f0)
section
variable {S : List S48} (hS : Sorted S) (hlen : S.length < 1099511627776)
include hS hlen
/-- What the loops leave: the steps at these places. -/
structure Fin (S : List S48) (out : List S48) : Prop where
  built : ∃ ps r, Built (fun p => wrap64 (upto S p)) ps out ∧ ps = 0 :: r ∧ (∀ p ∈ ps, p < FV) ∧ ∀ s ∈ S, s.f0 < FV → s.f0 ∈ ps
end
end Go.Proofs.Ytapfdhaohgkjeaa.Q
end
/- steps.Of, plainly: the loops that gather the changes, and the whole. -/
section
namespace Go.Proofs.Ytapfdhaohgkjeaa.Q
open Go.RowKit Go.Proofs.YtapfdhaohgkjeaaW.PrintWords Go.Proofs.Ytapfdhaohgkjeaa.XP
set_option linter.unusedVariables false
/-- The sum of the pieces that hold t. -/
def total : List S40 → Int → Int
  | [], _ => 0
  | c :: r, t => (if okP c.f0 ∧ c.f0.f0 ≤ t ∧ t < c.f0.f1 then c.f1 else 0) + total r t
end Go.Proofs.Ytapfdhaohgkjeaa.Q
end
/- The reference's sorted places, plainly: Insert, Same, and the reference's Of. -/
section
namespace Go.Proofs.Ytapfdhaohgkjeaa.Q
open Go.RowKit Go.Proofs.YtapfdhaohgkjeaaW.PrintWords Go.Proofs.Ytapfdhaohgkjeaa.XP
set_option linter.unusedVariables false
theorem rd48_mid (a : List S48) (x : S48) (b : List S48) : rd_T48 (a ++ x :: b) (a.length : Int) = x := by rw [rd48_nat, getD_mid]
/-- A place among ascending places. -/
def ins : List Int → Int → List Int
  | [], x => [x]
  | a :: r, x => if a < x then a :: ins r x else if a > x then x :: a :: r else a :: r
abbrev Up (l : List Int) : Prop := l.Pairwise (fun a b => a < b)
/-- A period holds t. -/
abbrev holds (p : S38) (t : Int) : Prop := okP p ∧ p.f0 ≤ t ∧ t < p.f1
end Go.Proofs.Ytapfdhaohgkjeaa.Q
end
/- The examples of the chapter, reckoned. -/
section
namespace Go.Proofs.Ytapfdhaohgkjeaa.Q
open Go.RowKit Go.Proofs.YtapfdhaohgkjeaaW.PrintWords Go.Proofs.Ytapfdhaohgkjeaa.XP
theorem awake_true : bitemporallaw04_awake.f 60 = some true := by decide +kernel
theorem awakeEv : Ev (fun k => (bitemporallaw04_awake.f k).bind fun t => some t) true :=
  Ev.bind (Ev.of bitemporallaw04_awake.mono awake_true) (Ev.now true)
end Go.Proofs.Ytapfdhaohgkjeaa.Q
end
/- The value at an instant and valid lists, plainly: the binary search, the reference's walk, and both Valid. -/
section
namespace Go.Proofs.Ytapfdhaohgkjeaa.Q
open Go.RowKit Go.Proofs.YtapfdhaohgkjeaaW.PrintWords Go.Proofs.Ytapfdhaohgkjeaa.XP
set_option linter.unusedVariables false
theorem wrap_pred' (i : Nat) (h : i < 4611686018427387904) : wrap64 ((i : Int) - 1) = (i : Int) - 1 := by unfold wrap64; omega
theorem half (i j : Nat) (hi : i < 4611686018427387904) (hj : j < 4611686018427387904) : wrap64 ((IntKind.u64.wrap (wrap64 ((i : Int) + (j : Int)))) / 2) = (((i + j) / 2 : Nat) : Int) := by
  have e : wrap64 ((i : Int) + (j : Int)) = (i : Int) + j := by unfold wrap64; omega
  rw [e]
  have : IntKind.u64.wrap ((i : Int) + j) = (i : Int) + j := by
    simp [IntKind.wrap, IntKind.signed, IntKind.bits]; omega
  rw [this]
  unfold wrap64; omega
theorem find1_eq (a b t : Int) : steps_find_1.f a b t = some (if a < t then -1 else if t < a then 1 else 0) := by
  unfold steps_find_1.f cmp_Compare_54.f cmp_isNaN_68.f
  simp only [bne_self_eq_false, Option.bind_some, Bool.false_eq_true, if_false]
  by_cases h : a < t
  · rw [if_pos h, if_pos h, Option.bind_some]
  · rw [if_neg h, if_neg h]
    by_cases h2 : t < a
    · rw [if_pos h2, if_pos h2, Option.bind_some]
    · rw [if_neg h2, if_neg h2, Option.bind_some]
theorem getD_left {α : Type} (a b : List α) (d : α) (i : Nat) (h : i < a.length) : (a ++ b).getD i d ∈ a := by
  rw [List.getD_eq_getElem?_getD, List.getElem?_append_left h, List.getElem?_eq_getElem h, Option.getD_some]; exact List.getElem_mem h
theorem getD_right {α : Type} (a b : List α) (d : α) (i : Nat) (h : a.length ≤ i) (h2 : i < a.length + b.length) : (a ++ b).getD i d ∈ b := by
  rw [List.getD_eq_getElem?_getD, List.getElem?_append_right h, List.getElem?_eq_getElem (by omega), Option.getD_some]; exact List.getElem_mem _
theorem search (a b : List S48) (t : Int) (hl : (a ++ b).length < 4611686018427387904) (ha : ∀ s ∈ a, s.f0 < t) (hb : ∀ s ∈ b, t ≤ s.f0) : ∀ (n i j : Nat), j - i ≤ n → i ≤ a.length → a.length ≤ j → j ≤ (a ++ b).length →
    ∃ f, Ev (fun k => slices_BinarySearchFunc_73__74.l0 k (a ++ b) t ((a ++ b).length : Int) (i : Int) (j : Int)) ((a.length : Int), f) ∧ (f = true ↔ ∃ s r, b = s :: r ∧ s.f0 = t) := by
  intro n
  have hlen : (a ++ b).length = a.length + b.length := by simp
  induction n with
  | zero =>
    intro i j hn hi hj hjl
    have hij : i = j := by omega
    have hia : i = a.length := by omega
    subst hij
    subst hia
    cases b with
    | nil =>
      refine ⟨false, Ev.step (fun k => by simp only [slices_BinarySearchFunc_73__74.l0]; rw [if_neg (by omega), if_neg (by rw [hlen]; simp)]) (Ev.now _), ?_⟩
      constructor
      · intro h; cases h
      · rintro ⟨s, r, h, _⟩; cases h
    | cons s r =>
      have hs : t ≤ s.f0 := hb s List.mem_cons_self
      refine ⟨decide (s.f0 = t), Ev.step (fun k => by
        simp only [slices_BinarySearchFunc_73__74.l0]
        rw [if_neg (by omega), if_pos (by rw [hlen]; simp; omega), if_pos (by omega), if_pos (by rw [hlen]; simp; omega), rd48_mid, find1_eq, Option.bind_some]) ?_, ?_⟩
      · have : (((if s.f0 < t then (-1 : Int) else if t < s.f0 then 1 else 0) == 0)) = decide (s.f0 = t) := by
          rw [if_neg (by omega)]
          by_cases c : t < s.f0
          · rw [if_pos c, decide_eq_false (by omega)]; rfl
          · rw [if_neg c, decide_eq_true (by omega)]; rfl
        rw [this]; exact Ev.now _
      · rw [decide_eq_true_iff]
        constructor
        · intro h; exact ⟨s, r, rfl, h⟩
        · rintro ⟨s', r', h, h2⟩; cases h; exact h2
  | succ n ih =>
    intro i j hn hi hj hjl
    by_cases hij : i < j
    · have hh : (i + j) / 2 < a.length + b.length := by omega
      by_cases c : (i + j) / 2 < a.length
      · obtain ⟨f, h1, h2⟩ := ih ((i + j) / 2 + 1) j (by omega) (by omega) hj hjl
        refine ⟨f, Ev.step (fun k => by
          simp only [slices_BinarySearchFunc_73__74.l0]
          rw [if_pos (by omega), half i j (by omega) (by omega), if_pos (by omega), if_pos (by rw [hlen]; omega), find1_eq, Option.bind_some, if_pos (ha _ (by rw [rd48_nat]; exact getD_left a b _ _ c)), if_pos (by decide), wrap_nat _ (by omega)]) h1, h2⟩
      · obtain ⟨f, h1, h2⟩ := ih i ((i + j) / 2) (by omega) hi (by omega) (by omega)
        have hge : t ≤ (rd_T48 (a ++ b) (((i + j) / 2 : Nat) : Int)).f0 := hb _ (by rw [rd48_nat]; exact getD_right a b _ _ (by omega) hh)
        refine ⟨f, Ev.step (fun k => by
          simp only [slices_BinarySearchFunc_73__74.l0]
          rw [if_pos (by omega), half i j (by omega) (by omega), if_pos (by omega), if_pos (by rw [hlen]; omega), find1_eq, Option.bind_some, if_neg (by omega)]) h1, h2⟩
    · exact ih i j (by omega) hi hj hjl
theorem split_at (t : Int) : ∀ l : List S48, Asc l → ∃ a b, l = a ++ b ∧ (∀ s ∈ a, s.f0 < t) ∧ ∀ s ∈ b, t ≤ s.f0
  | [], _ => ⟨[], [], rfl, (fun _ h => by cases h), fun _ h => by cases h⟩
  | x :: r, h => by
    by_cases c : x.f0 < t
    · obtain ⟨a, b, e, ha, hb⟩ := split_at t r h.tail
      refine ⟨x :: a, b, by rw [e]; rfl, fun s hs => ?_, hb⟩
      rcases List.mem_cons.1 hs with rfl | hs
      · exact c
      · exact ha s hs
    · refine ⟨[], x :: r, rfl, (fun _ h => by cases h), fun s hs => ?_⟩
      rcases List.mem_cons.1 hs with rfl | hs
      · omega
      · have := h.gt s hs; omega
theorem vFrom_append (t n : Int) (a b : List S48) : vFrom t n (a ++ b) = vFrom t (vFrom t n a) b := by unfold vFrom; rw [List.foldl_append]
/-- The value at an instant, 0 outside the line. -/
def atV (l : List S48) (t : Int) : Int := if 0 ≤ t ∧ t < FV then vAt l t else 0
theorem atEv (l : List S48) (t : Int) (hA : Asc l) (hl : l.length < 4611686018427387904) : Ev (fun k => steps_At.f k l t) (atV l t) := by
  unfold atV
  by_cases h0 : 0 ≤ t ∧ t < FV
  · have h0' : 0 ≤ t ∧ t < 1099511627776 := h0
    rw [if_pos h0]
    refine Ev.congr (fun k => by unfold steps_At.f; rw [if_neg (by omega), decide_eq_false (by omega)]) ?_
    obtain ⟨a, b, rfl, ha, hb⟩ := split_at t l hA
    obtain ⟨f, h1, h2⟩ := search a b t hl ha hb (a ++ b).length 0 (a ++ b).length (by omega) (by omega) (by simp) (Nat.le_refl _)
    have hlen : (a ++ b).length = a.length + b.length := by simp
    refine Ev.step (f := fun k => (steps_find.f k (a ++ b) t).bind fun t173 => (if t173 < 0 then (some 0) else (if 0 ≤ t173 then (if t173 < ((a ++ b).length : Int) then (some ((rd_T48 (a ++ b) t173).f1)) else (none)) else (none)))) (fun k => by simp only [steps_At.j0]; rw [if_neg (by decide)]) ?_
    have hf : ∀ i : Int, (if f = true then some (a.length : Int) else some (wrap64 ((a.length : Int) - 1))) = some i → Ev (fun k => steps_find.f k (a ++ b) t) i := fun i hi => by
      refine Ev.congr (fun k => by unfold steps_find.f slices_BinarySearchFunc_73__74.f; rfl) (Ev.bind h1 ?_)
      exact Ev.congr (fun k => hi) (Ev.now i)
    by_cases c : f = true
    · obtain ⟨s, r, rfl, hs⟩ := h2.1 c
      refine Ev.bind (hf (a.length : Int) (by rw [if_pos c])) ?_
      refine Ev.congr (fun k => by rw [if_neg (by omega), if_pos (by omega), if_pos (by rw [hlen]; simp; omega), rd48_mid]) ?_
      have : vAt (a ++ s :: r) t = s.f1 := by
        unfold vAt
        have hr : Asc (s :: r) := by
          clear h1 h2 hf hlen hl hb ha
          induction a with
          | nil => exact hA
          | cons x a ih => exact ih (Asc.tail hA)
        rw [vFrom_append, vFrom_cons, if_pos (by omega), vFrom_late _ _ _ (fun x hx => by have := hr.gt x hx; omega)]
      rw [this]; exact Ev.now _
    · have hlate : ∀ s ∈ b, t < s.f0 := by
        intro s hs
        cases b with
        | nil => cases hs
        | cons x r =>
          have hx : t ≤ x.f0 := hb x List.mem_cons_self
          have hne : x.f0 ≠ t := fun e => c (h2.2 ⟨x, r, rfl, e⟩)
          have hr : Asc (x :: r) := by
            clear h1 h2 hf hlen hl hb ha c hs
            induction a with
            | nil => exact hA
            | cons y a ih => exact ih (Asc.tail hA)
          rcases List.mem_cons.1 hs with rfl | hs
          · omega
          · have := hr.gt s hs; omega
      refine Ev.bind (hf _ (by rw [if_neg c])) ?_
      rw [wrap_pred' _ (by omega)]
      have hv : vAt (a ++ b) t = vAt a t := by unfold vAt; rw [vFrom_append, vFrom_late _ _ b hlate]
      rw [hv]
      rcases List.eq_nil_or_concat a with rfl | ⟨a', s, rfl⟩
      · exact Ev.congr (fun k => by rw [if_pos (by simp)]) (Ev.now 0)
      · rw [List.concat_eq_append] at *
        have hs : s.f0 < t := ha s (by simp)
        have e1 : (((a' ++ [s]).length : Nat) : Int) - 1 = (a'.length : Int) := by simp
        rw [e1, vAt_snoc, if_pos (show s.f0 ≤ t from by omega)]
        refine Ev.congr (fun k => by rw [if_neg (by omega), if_pos (by omega), if_pos (by rw [hlen]; simp; omega), List.append_assoc, List.singleton_append, rd48_mid]) (Ev.now _)
  · have h0' : ¬ (0 ≤ t ∧ t < 1099511627776) := h0
    rw [if_neg h0]
    have : ∀ k, steps_At.f k l t = steps_At.j0 k l t true := by
      intro k
      unfold steps_At.f
      by_cases h : t < 0
      · rw [if_pos h]
      · rw [if_neg h, decide_eq_true (by omega)]
    refine Ev.congr this ?_
    exact Ev.step (fun k => by simp only [steps_At.j0]; rw [if_pos trivial]) (Ev.now 0)
theorem rat_loop (l : List S48) (t : Int) (hl : l.length < 4611686018427387904) : ∀ (rest done : List S48) (n : Int), l = done ++ rest → Ev (fun k => bitemporalref04_At.l0 k l t n (done.length : Int)) (if 0 ≤ t ∧ t < FV then vFrom t n rest else n) := by
  intro rest
  induction rest with
  | nil =>
    intro done n e
    have hsl : l.length = done.length := by rw [e]; simp
    have : (if 0 ≤ t ∧ t < FV then vFrom t n [] else n) = n := by split <;> rfl
    rw [this]
    refine Ev.step (fun k => by simp only [bitemporalref04_At.l0]; rw [if_neg (by omega)]) ?_
    exact Ev.step (fun k => by simp only [bitemporalref04_At.j1]; rw [if_neg (by decide)]) (Ev.now n)
  | cons s rest ih =>
    intro done n e
    have hsl : l.length = done.length + (rest.length + 1) := by rw [e]; simp
    have hg : rd_T48 l (done.length : Int) = s := by rw [e, rd48_mid]
    by_cases h0 : 0 ≤ t ∧ t < FV
    · have h0' : 0 ≤ t ∧ t < 1099511627776 := h0
      have := ih (done ++ [s]) (if s.f0 ≤ t then s.f1 else n) (by rw [e]; simp)
      rw [if_pos h0, show (done ++ [s]).length = done.length + 1 by simp] at this
      rw [if_pos h0, vFrom_cons]
      refine Ev.step (fun k => by simp only [bitemporalref04_At.l0]; rw [if_pos (by omega), if_pos (by omega), decide_eq_true (by omega)]) ?_
      by_cases c : s.f0 ≤ t
      · rw [if_pos c] at this ⊢
        exact Ev.step (fun k => by simp only [bitemporalref04_At.j1]; rw [if_pos trivial, if_pos (by omega), if_pos (by omega), hg, if_pos c, wrap_nat _ (by omega)]) this
      · rw [if_neg c] at this ⊢
        exact Ev.step (fun k => by simp only [bitemporalref04_At.j1]; rw [if_pos trivial, if_pos (by omega), if_pos (by omega), hg, if_neg c, wrap_nat _ (by omega)]) this
    · have h0' : ¬ (0 ≤ t ∧ t < 1099511627776) := h0
      rw [if_neg h0]
      refine Ev.step (f := fun k => bitemporalref04_At.j1 k l t n (done.length : Int) false) (fun k => by
        simp only [bitemporalref04_At.l0]
        rw [if_pos (by omega)]
        by_cases h : t ≥ 0
        · rw [if_pos h, decide_eq_false (by omega)]
        · rw [if_neg h]) ?_
      exact Ev.step (fun k => by simp only [bitemporalref04_At.j1]; rw [if_neg (by decide)]) (Ev.now n)
theorem ratEv (l : List S48) (t : Int) (hl : l.length < 4611686018427387904) : Ev (fun k => bitemporalref04_At.f k l t) (atV l t) := rat_loop l t hl l [] 0 rfl
end Go.Proofs.Ytapfdhaohgkjeaa.Q
end
/- Valid lists of steps, plainly. -/
section
namespace Go.Proofs.Ytapfdhaohgkjeaa.Q
open Go.RowKit Go.Proofs.YtapfdhaohgkjeaaW.PrintWords Go.Proofs.Ytapfdhaohgkjeaa.XP
set_option linter.unusedVariables false
theorem valid_loop (l : List S48) (hl : l.length < 4611686018427387904) : ∀ (rest done : List S48) (p : S48), l = done ++ p :: rest →
    ∃ b, Ev (fun k => bitemporalref04_Valid.l0 k l ((done.length + 1 : Nat) : Int)) b ∧ (b = true ↔ Asc (p :: rest) ∧ ∀ s ∈ rest, s.f0 < FV) := by
  intro rest
  induction rest with
  | nil =>
    intro done p e
    have hsl : l.length = done.length + 1 := by rw [e]; simp
    exact ⟨true, Ev.step (fun k => by simp only [bitemporalref04_Valid.l0]; rw [if_neg (by omega)]) (Ev.now true), by simp [Asc]⟩
  | cons s rest ih =>
    intro done p e
    have hsl : l.length = done.length + 1 + (rest.length + 1) := by rw [e]; simp; omega
    have hp : rd_T48 l (done.length : Int) = p := by rw [e, rd48_mid]
    have hs : rd_T48 l ((done.length + 1 : Nat) : Int) = s := by
      rw [e, show done ++ p :: s :: rest = (done ++ [p]) ++ s :: rest by simp, show done.length + 1 = (done ++ [p]).length by simp, rd48_mid]
    have hw : wrap64 (((done.length + 1 : Nat) : Int) - 1) = (done.length : Int) := wrap_pred _ (by omega)
    have base : ∀ k, bitemporalref04_Valid.l0 (k + 1) l ((done.length + 1 : Nat) : Int) = (if s.f0 ≤ p.f0 then (some false) else (if s.f0 ≥ 1099511627776 then (some false) else (if s.f1 = p.f1 then (some false) else (bitemporalref04_Valid.l0 k l (wrap64 (((done.length + 1 : Nat) : Int) + 1)))))) := fun k => by
      simp only [bitemporalref04_Valid.l0]; rw [if_pos (by omega), if_pos (by omega), hw, if_pos (by omega), if_pos (by omega), hs, hp]
    by_cases c1 : s.f0 ≤ p.f0
    · refine ⟨false, Ev.step (fun k => by rw [base, if_pos c1]) (Ev.now false), ?_⟩
      simp only [Asc]
      constructor
      · intro h; cases h
      · rintro ⟨⟨h, _⟩, _⟩; omega
    · by_cases c2 : s.f0 ≥ 1099511627776
      · refine ⟨false, Ev.step (fun k => by rw [base, if_neg c1, if_pos c2]) (Ev.now false), ?_⟩
        constructor
        · intro h; cases h
        · rintro ⟨_, h⟩; have := h s List.mem_cons_self; simp only [FV] at this; omega
      · by_cases c3 : s.f1 = p.f1
        · refine ⟨false, Ev.step (fun k => by rw [base, if_neg c1, if_neg c2, if_pos c3]) (Ev.now false), ?_⟩
          constructor
          · intro h; cases h
          · rintro ⟨⟨_, h, _⟩, _⟩; exact absurd c3.symm h
        · obtain ⟨b, h1, h2⟩ := ih (done ++ [p]) s (by rw [e]; simp)
          rw [show (done ++ [p]).length = done.length + 1 by simp] at h1
          refine ⟨b, Ev.step (fun k => by rw [base, if_neg c1, if_neg c2, if_neg c3, wrap_nat _ (by omega)]) h1, ?_⟩
          rw [h2]
          simp only [Asc]
          constructor
          · rintro ⟨h3, h4⟩
            refine ⟨⟨by omega, fun h => c3 h.symm, h3⟩, fun x hx => ?_⟩
            rcases List.mem_cons.1 hx with rfl | hx
            · simp only [FV]; omega
            · exact h4 x hx
          · rintro ⟨h3, h4⟩
            exact ⟨h3.2.2, fun x hx => h4 x (List.mem_cons_of_mem _ hx)⟩
theorem validEv (l : List S48) (hl : l.length < 4611686018427387904) : ∃ b, Ev (fun k => bitemporalref04_Valid.f k l) b ∧ (b = true ↔ Valid l) := by
  cases l with
  | nil =>
    refine ⟨false, Ev.congr (fun k => by unfold bitemporalref04_Valid.f; rw [if_pos (by simp)]) (Ev.step (fun k => by simp only [bitemporalref04_Valid.j0]; rw [if_pos trivial]) (Ev.now false)), ?_⟩
    constructor
    · intro h; cases h
    · rintro ⟨_, ⟨n, r, h⟩, _⟩; cases h
  | cons p rest =>
    have hg : rd_T48 (p :: rest) 0 = p := rfl
    by_cases c : p.f0 = 0
    · obtain ⟨b, h1, h2⟩ := valid_loop (p :: rest) hl rest [] p rfl
      refine ⟨b, Ev.congr (fun k => by unfold bitemporalref04_Valid.f; rw [if_neg (by simp; omega), if_pos (by simp), hg, c]) (Ev.step (fun k => by simp only [bitemporalref04_Valid.j0]; rw [if_neg (by decide)]; rfl) h1), ?_⟩
      rw [h2]
      constructor
      · rintro ⟨h3, h4⟩
        refine ⟨h3, ⟨p.f1, rest, by cases p; simp at c; rw [c]⟩, fun s hs => ?_⟩
        rcases List.mem_cons.1 hs with rfl | hs
        · rw [c]; decide
        · exact h4 s hs
      · intro h; exact ⟨h.asc, fun s hs => h.lim s (List.mem_cons_of_mem _ hs)⟩
    · have hb : (p.f0 != 0) = true := by simpa using c
      refine ⟨false, Ev.congr (fun k => by unfold bitemporalref04_Valid.f; rw [if_neg (by simp; omega), if_pos (by simp), hg, hb]) (Ev.step (fun k => by simp only [bitemporalref04_Valid.j0]; rw [if_pos trivial]) (Ev.now false)), ?_⟩
      constructor
      · intro h; cases h
      · rintro ⟨_, ⟨n, r, h⟩, _⟩; cases h; exact absurd rfl c
theorem svalid_l0 : ∀ (k : Nat) (l : List S48) (i : Int), steps_Valid.l0 k l i = bitemporalref04_Valid.l0 k l i
  | 0, _, _ => rfl
  | k + 1, l, i => by simp only [steps_Valid.l0, bitemporalref04_Valid.l0, svalid_l0 k]
theorem svalid_eq (k : Nat) (l : List S48) : steps_Valid.f k l = bitemporalref04_Valid.f k l := by
  have : ∀ b, steps_Valid.j0 k l b = bitemporalref04_Valid.j0 k l b := fun b => by cases k with
    | zero => rfl
    | succ k => simp only [steps_Valid.j0, bitemporalref04_Valid.j0, svalid_l0]
  unfold steps_Valid.f bitemporalref04_Valid.f
  simp only [this]
end Go.Proofs.Ytapfdhaohgkjeaa.Q
end

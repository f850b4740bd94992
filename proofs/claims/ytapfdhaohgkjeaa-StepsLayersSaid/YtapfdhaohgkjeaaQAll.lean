/- Step functions, plainly: the value at an instant, valid lists, and that a valid list is told by its values. -/
import Derived.Test.YtapfdhaohgkjeaaHAll
import Derived.Test.YtapfdhaohgkjeaaXPx4
import Derived.Test.YtapfdhaohgkjeaaXPx11
import Derived.Test.YtapfdhaohgkjeaaXPx9
import Derived.Test.YtapfdhaohgkjeaaXPx12
import Derived.Test.YtapfdhaohgkjeaaXPx23
import Derived.Test.YtapfdhaohgkjeaaXPx14
import Derived.Test.YtapfdhaohgkjeaaXPx16
section
namespace Go.Proofs.Ytapfdhaohgkjeaa.Q
open Go.RowKit Go.Proofs.YtapfdhaohgkjeaaW.PrintWords Go.Proofs.Ytapfdhaohgkjeaa.XP
/-- One past the last instant. -/
abbrev FV : Int := 1099511627776
/-- The value, from n on. -/
def vFrom (t : Int) (n : Int) (l : List S48) : Int := l.foldl (fun n s => if s.f0 ≤ t then s.f1 else n) n
def vAt (l : List S48) (t : Int) : Int := vFrom t 0 l
theorem vFrom_cons (t n : Int) (s : S48) (r : List S48) : vFrom t n (s :: r) = vFrom t (if s.f0 ≤ t then s.f1 else n) r := rfl
theorem vFrom_snoc (t n : Int) (l : List S48) (s : S48) : vFrom t n (l ++ [s]) = if s.f0 ≤ t then s.f1 else vFrom t n l := by
  unfold vFrom; rw [List.foldl_append]; rfl
theorem vAt_snoc (l : List S48) (s : S48) (t : Int) : vAt (l ++ [s]) t = if s.f0 ≤ t then s.f1 else vAt l t := vFrom_snoc _ _ _ _
/-- Ascending, and neighbours differ. -/
def Asc : List S48 → Prop
  | [] => True
  | [_] => True
  | a :: b :: r => a.f0 < b.f0 ∧ a.f1 ≠ b.f1 ∧ Asc (b :: r)
theorem Asc.tail {a : S48} {r : List S48} (h : Asc (a :: r)) : Asc r := by
  cases r with
  | nil => trivial
  | cons b r => exact h.2.2
theorem Asc.gt {a : S48} : ∀ {r : List S48}, Asc (a :: r) → ∀ s ∈ r, a.f0 < s.f0
  | [], _, s, hs => by cases hs
  | b :: r, h, s, hs => by
    rcases List.mem_cons.1 hs with rfl | hs
    · exact h.1
    · have := Asc.gt h.2.2 s hs
      have := h.1
      omega
/-- A valid list of steps. -/
structure Valid (l : List S48) : Prop where
  asc : Asc l
  head : ∃ n r, l = ⟨0, n⟩ :: r
  lim : ∀ s ∈ l, s.f0 < FV
theorem Asc.length : ∀ {l : List S48} {a : S48} {r : List S48}, l = a :: r → Asc l → (∀ s ∈ l, s.f0 < FV) → (l.length : Int) ≤ FV - a.f0
  | [], _, _, h, _, _ => by cases h
  | [b], a, r, h, _, hF => by
    have := hF b List.mem_cons_self
    cases h
    show (1 : Int) ≤ _
    omega
  | b :: c :: r', a, r, h, hA, hF => by
    have := Asc.length (l := c :: r') rfl hA.tail (fun s hs => hF s (List.mem_cons_of_mem _ hs))
    have := hA.1
    cases h
    simp only [List.length_cons] at *
    omega
theorem Valid.length {l : List S48} (h : Valid l) : l.length ≤ 1099511627776 := by
  obtain ⟨n, r, e⟩ := h.head
  have := Asc.length e h.asc h.lim
  simp only [FV] at this
  omega
theorem Asc.snoc : ∀ {l : List S48} {s : S48}, Asc l → (∀ a, l.getLast? = some a → a.f0 < s.f0 ∧ a.f1 ≠ s.f1) → Asc (l ++ [s])
  | [], _, _, _ => trivial
  | [a], s, _, h => ⟨(h a rfl).1, (h a rfl).2, trivial⟩
  | a :: b :: r, s, h, hl => ⟨h.1, h.2.1, Asc.snoc (l := b :: r) h.2.2 (fun x hx => hl x (by rw [List.getLast?_cons_cons]; exact hx))⟩
theorem vAt_last {l : List S48} {a : S48} {t : Int} (h : l.getLast? = some a) (ht : a.f0 ≤ t) : vAt l t = a.f1 := by
  obtain ⟨r, rfl⟩ := List.getLast?_eq_some_iff.1 h
  rw [vAt_snoc, if_pos ht]
/-- A step is put behind, unless the value stays. -/
def putL (l : List S48) (p n : Int) : List S48 := match l.getLast? with
  | none => l ++ [⟨p, n⟩]
  | some a => if a.f1 = n then l else l ++ [⟨p, n⟩]
theorem putL_at {l : List S48} {p n : Int} (h : ∀ a, l.getLast? = some a → a.f0 ≤ p) (t : Int) : vAt (putL l p n) t = if p ≤ t then n else vAt l t := by
  unfold putL
  cases e : l.getLast? with
  | none => exact vAt_snoc _ _ _
  | some a =>
    simp only
    by_cases c : a.f1 = n
    · rw [if_pos c]
      by_cases ht : p ≤ t
      · rw [if_pos ht, vAt_last e (by have := h a e; omega), c]
      · rw [if_neg ht]
    · rw [if_neg c]; exact vAt_snoc _ _ _
theorem putL_asc {l : List S48} {p n : Int} (hA : Asc l) (h : ∀ a, l.getLast? = some a → a.f0 < p) : Asc (putL l p n) := by
  unfold putL
  cases e : l.getLast? with
  | none => exact hA.snoc (fun a ha => by rw [e] at ha; cases ha)
  | some a =>
    simp only
    by_cases c : a.f1 = n
    · rw [if_pos c]; exact hA
    · rw [if_neg c]; exact hA.snoc (fun b hb => by rw [e] at hb; cases hb; exact ⟨h a e, c⟩)
theorem putL_mem {l : List S48} {p n : Int} {s : S48} (h : s ∈ putL l p n) : s ∈ l ∨ s = ⟨p, n⟩ := by
  unfold putL at h
  cases e : l.getLast? with
  | none => rw [e] at h; simpa using h
  | some a =>
    rw [e] at h
    simp only at h
    by_cases c : a.f1 = n
    · rw [if_pos c] at h; exact Or.inl h
    · rw [if_neg c] at h; simpa using h
theorem putL_head {l : List S48} {p n : Int} {s : S48} {r : List S48} (h : l = s :: r) : ∃ r', putL l p n = s :: r' := by
  subst h
  unfold putL
  split
  · exact ⟨r ++ [⟨p, n⟩], rfl⟩
  · split
    · exact ⟨r, rfl⟩
    · exact ⟨r ++ [⟨p, n⟩], rfl⟩
/-- The steps at ascending places. -/
def build (g : Int → Int) (ps : List Int) : List S48 := ps.foldl (fun o p => putL o p (g p)) []
structure Built (g : Int → Int) (ps : List Int) (l : List S48) : Prop where
  asc : Asc l
  mem : ∀ s ∈ l, s.f0 ∈ ps
  at_ : ∀ t p, p ∈ ps → p ≤ t → (∀ q ∈ ps, q ≤ t → q ≤ p) → vAt l t = g p
  first : ∀ p r, ps = p :: r → ∃ r', l = ⟨p, g p⟩ :: r'
theorem Built.nil (g : Int → Int) : Built g [] [] := ⟨trivial, (fun _ h => by cases h), (fun _ _ h => by cases h), (fun _ _ h => by cases h)⟩
theorem Built.put {g : Int → Int} {ps : List Int} {l : List S48} (h : Built g ps l) {p : Int} (hp : ∀ q ∈ ps, q < p) : Built g (ps ++ [p]) (putL l p (g p)) := by
  have hl : ∀ a, l.getLast? = some a → a.f0 < p := fun a ha => hp _ (h.mem a (List.mem_of_getLast? ha))
  refine ⟨putL_asc h.asc hl, fun s hs => ?_, fun t q hq hqt hmax => ?_, fun q r e => ?_⟩
  · rcases putL_mem hs with hs | rfl
    · exact List.mem_append_left _ (h.mem s hs)
    · simp
  · rw [putL_at (fun a ha => by have := hl a ha; omega)]
    by_cases c : p ≤ t
    · rw [if_pos c]
      have h1 := hmax p (by simp) c
      rcases List.mem_append.1 hq with hq | hq
      · have := hp q hq; omega
      · rw [List.mem_singleton.1 hq]
    · rw [if_neg c]
      rcases List.mem_append.1 hq with hq | hq
      · exact h.at_ t q hq hqt (fun x hx hxt => hmax x (List.mem_append_left _ hx) hxt)
      · have := List.mem_singleton.1 hq; omega
  · cases ps with
    | nil =>
      have : p = q := by simpa using congrArg List.head? e
      subst this
      cases l with
      | nil => exact ⟨[], rfl⟩
      | cons s r => have := h.mem s List.mem_cons_self; cases this
    | cons x xs =>
      have : x = q := by simpa using congrArg List.head? e
      subst this
      obtain ⟨r', hr⟩ := h.first x xs rfl
      exact putL_head hr
end Go.Proofs.Ytapfdhaohgkjeaa.Q
end
/- steps.Of, plainly: a valid list whose value is the sum of the pieces that hold the instant. -/
section
namespace Go.Proofs.Ytapfdhaohgkjeaa.Q
open Go.RowKit Go.Proofs.YtapfdhaohgkjeaaW.PrintWords Go.Proofs.Ytapfdhaohgkjeaa.XP
set_option linter.unusedVariables false
theorem wrap_nat (i : Nat) (h : i < 4611686018427387904) : wrap64 ((i : Int) + 1) = ((i + 1 : Nat) : Int) := by unfold wrap64; omega
theorem wrap_pred (i : Nat) (h : i < 4611686018427387904) : wrap64 (((i + 1 : Nat) : Int) - 1) = (i : Int) := by unfold wrap64; omega
theorem rd48_nat (l : List S48) (i : Nat) : rd_T48 l (i : Int) = l.getD i z48 := by unfold rd_T48; rw [Int.toNat_natCast]
theorem getD_mid {α : Type} (a : List α) (x : α) (b : List α) (d : α) : (a ++ x :: b).getD a.length d = x := by simp
/-- A period is valid. -/
abbrev okP (p : S38) : Prop := 0 ≤ p.f0 ∧ p.f0 < p.f1 ∧ p.f1 ≤ FV
theorem valid_eq (p : S38) : period_Valid.f p.f0 p.f1 = some (decide (okP p)) := by
  unfold period_Valid.f
  by_cases h : p.f0 ≥ 0
  · rw [if_pos h]
    by_cases h2 : p.f0 < p.f1
    · rw [if_pos h2]; congr 1; rw [decide_eq_decide]; exact ⟨fun h3 => ⟨h, h2, h3⟩, fun h3 => h3.2.2⟩
    · rw [if_neg h2]; congr 1; symm; rw [decide_eq_false_iff_not]; exact fun h3 => h2 h3.2.1
  · rw [if_neg h]; congr 1; symm; rw [decide_eq_false_iff_not]; exact fun h3 => h h3.1
/-- The changes of a piece. -/
def chg (c : S40) : List S48 := if okP c.f0 then [⟨c.f0.f0, c.f1⟩, ⟨c.f0.f1, wrap64 (-c.f1)⟩] else []
def sumF : List S48 → Int
  | [] => 0
  | s :: r => s.f1 + sumF r
/-- The sum of the changes up to p. -/
def upto (S : List S48) (p : Int) : Int := sumF (S.filter (fun s => s.f0 ≤ p))
def Sorted (S : List S48) : Prop := S.Pairwise (fun a b => a.f0 ≤ b.f0)
section
variable {S : List S48} (hS : Sorted S) (hlen : S.length < 1099511627776)
include hS hlen
/-- What the loops leave: the steps at these places. -/
structure Fin (S : List S48) (out : List S48) : Prop where
  built : ∃ ps r, Built (fun p => wrap64 (upto S p)) ps out ∧ ps = 0 :: r ∧ (∀ p ∈ ps, p < FV) ∧ ∀ s ∈ S, s.f0 < FV → s.f0 ∈ ps
end
end Go.Proofs.Ytapfdhaohgkjeaa.Q
end
/- steps.Of, plainly: the loops that gather the changes, and the whole. -/
section
namespace Go.Proofs.Ytapfdhaohgkjeaa.Q
open Go.RowKit Go.Proofs.YtapfdhaohgkjeaaW.PrintWords Go.Proofs.Ytapfdhaohgkjeaa.XP
set_option linter.unusedVariables false
/-- The sum of the pieces that hold t. -/
def total : List S40 → Int → Int
  | [], _ => 0
  | c :: r, t => (if okP c.f0 ∧ c.f0.f0 ≤ t ∧ t < c.f0.f1 then c.f1 else 0) + total r t
end Go.Proofs.Ytapfdhaohgkjeaa.Q
end
/- The reference's sorted places, plainly: Insert, Same, and the reference's Of. -/
section
namespace Go.Proofs.Ytapfdhaohgkjeaa.Q
open Go.RowKit Go.Proofs.YtapfdhaohgkjeaaW.PrintWords Go.Proofs.Ytapfdhaohgkjeaa.XP
set_option linter.unusedVariables false
theorem rd_nat (l : List Int) (i : Nat) : rd l (i : Int) = l.getD i 0 := by unfold rd; rw [Int.toNat_natCast]
theorem rd_mid (a : List Int) (x : Int) (b : List Int) : rd (a ++ x :: b) (a.length : Int) = x := by rw [rd_nat, getD_mid]
theorem rd48_mid (a : List S48) (x : S48) (b : List S48) : rd_T48 (a ++ x :: b) (a.length : Int) = x := by rw [rd48_nat, getD_mid]
/-- A place among ascending places. -/
def ins : List Int → Int → List Int
  | [], x => [x]
  | a :: r, x => if a < x then a :: ins r x else if a > x then x :: a :: r else a :: r
theorem ins_length : ∀ (l : List Int) (x : Int), (ins l x).length ≤ l.length + 1
  | [], x => by simp [ins]
  | a :: r, x => by
    have := ins_length r x
    unfold ins
    split
    · simp only [List.length_cons]; omega
    · split <;> simp
abbrev Up (l : List Int) : Prop := l.Pairwise (fun a b => a < b)
theorem insCopy (x0 : List Int) (hl : x0.length < 4398046511104) : ∀ (rest done acc : List Int), x0 = done ++ rest → acc.length ≤ done.length + 1 → Ev (fun k => bitemporalref03_Insert.l1 k x0 acc (done.length : Int)) (acc ++ rest) := by
  intro rest
  induction rest with
  | nil =>
    intro done acc e ha
    rw [List.append_nil]
    refine Ev.step (fun k => by simp only [bitemporalref03_Insert.l1]; rw [if_neg (by rw [e]; simp)]) (Ev.now acc)
  | cons y rest ih =>
    intro done acc e ha
    have hsl : x0.length = done.length + (rest.length + 1) := by rw [e]; simp
    have := ih (done ++ [y]) (acc ++ [y]) (by rw [e]; simp) (by simp; omega)
    rw [show (done ++ [y]).length = done.length + 1 by simp, List.append_assoc, List.singleton_append] at this
    refine Ev.step (fun k => by simp only [bitemporalref03_Insert.l1]; rw [if_pos (by omega), if_pos (by omega), if_pos (by omega), e, rd_mid, ← e, wrap_nat _ (by omega)]) this
theorem insLoop (x0 : List Int) (x : Int) (hl : x0.length < 4398046511104) : ∀ (rest done : List Int), x0 = done ++ rest → Ev (fun k => bitemporalref03_Insert.l0 k x0 x done (done.length : Int)) (done ++ ins rest x) := by
  intro rest
  induction rest with
  | nil =>
    intro done e
    have hsl : x0.length = done.length := by rw [e]; simp
    refine Ev.step (fun k => by simp only [bitemporalref03_Insert.l0]; rw [if_neg (by omega)]) ?_
    refine Ev.step (fun k => by simp only [bitemporalref03_Insert.j1]; rw [if_pos (by omega)]) ?_
    refine Ev.step (fun k => by simp only [bitemporalref03_Insert.j2]; rw [if_pos trivial, if_pos (by omega)]) ?_
    refine Ev.step (fun k => by simp only [bitemporalref03_Insert.j3]; rfl) ?_
    have := insCopy x0 hl [] done (done ++ [x]) e (by simp)
    rw [List.append_nil] at this
    exact this
  | cons y rest ih =>
    intro done e
    have hsl : x0.length = done.length + (rest.length + 1) := by rw [e]; simp
    have hy : rd x0 (done.length : Int) = y := by rw [e, rd_mid]
    unfold ins
    by_cases c : y < x
    · rw [if_pos c]
      have := ih (done ++ [y]) (by rw [e]; simp)
      rw [show (done ++ [y]).length = done.length + 1 by simp, List.append_assoc, List.singleton_append] at this
      exact Ev.step (fun k => by simp only [bitemporalref03_Insert.l0]; rw [if_pos (by omega), if_pos (by omega), hy, if_pos c, if_pos (by omega), wrap_nat _ (by omega)]) this
    · rw [if_neg c]
      refine Ev.step (fun k => by simp only [bitemporalref03_Insert.l0]; rw [if_pos (by omega), if_pos (by omega), hy, if_neg c]) ?_
      by_cases d : y > x
      · rw [if_pos d]
        refine Ev.step (fun k => by simp only [bitemporalref03_Insert.j1]; rw [if_neg (by omega), if_pos (by omega), if_pos (by omega), hy, decide_eq_true d]) ?_
        refine Ev.step (fun k => by simp only [bitemporalref03_Insert.j2]; rw [if_pos trivial, if_pos (by omega)]) ?_
        refine Ev.step (fun k => by simp only [bitemporalref03_Insert.j3]; rfl) ?_
        have := insCopy x0 hl (y :: rest) done (done ++ [x]) e (by simp)
        rw [List.append_assoc, List.singleton_append] at this
        exact this
      · rw [if_neg d]
        refine Ev.step (fun k => by simp only [bitemporalref03_Insert.j1]; rw [if_neg (by omega), if_pos (by omega), if_pos (by omega), hy, decide_eq_false d]) ?_
        refine Ev.step (fun k => by simp only [bitemporalref03_Insert.j2]; rw [if_neg (by decide)]) ?_
        refine Ev.step (fun k => by simp only [bitemporalref03_Insert.j3]; rfl) ?_
        exact insCopy x0 hl (y :: rest) done done e (by omega)
theorem insEv (x0 : List Int) (x : Int) (hl : x0.length < 4398046511104) : Ev (fun k => bitemporalref03_Insert.f k x0 x) (ins x0 x) := insLoop x0 x hl x0 [] rfl
theorem rvalid_eq (p : S38) : bitemporalref01_Valid.f p.f0 p.f1 = some (decide (okP p)) := valid_eq p
/-- A period holds t. -/
abbrev holds (p : S38) (t : Int) : Prop := okP p ∧ p.f0 ≤ t ∧ t < p.f1
theorem rcontains_eq (p : S38) (t : Int) : bitemporalref01_Contains.f p.f0 p.f1 t = some (decide (holds p t)) := by
  unfold bitemporalref01_Contains.f
  rw [rvalid_eq, Option.bind_some]
  by_cases h : okP p
  · rw [decide_eq_true h, if_pos rfl]
    by_cases h1 : p.f0 ≤ t
    · rw [if_pos h1]; congr 1; rw [decide_eq_decide]; exact ⟨fun h2 => ⟨h, h1, h2⟩, fun h2 => h2.2.2⟩
    · rw [if_neg h1]; congr 1; symm; rw [decide_eq_false_iff_not]; exact fun h2 => h1 h2.2.1
  · rw [decide_eq_false h, if_neg (by decide)]; congr 1; symm; rw [decide_eq_false_iff_not]; exact fun h2 => h h2.1
end Go.Proofs.Ytapfdhaohgkjeaa.Q
end
/- The reference's Of, plainly. -/
section
namespace Go.Proofs.Ytapfdhaohgkjeaa.Q
open Go.RowKit Go.Proofs.YtapfdhaohgkjeaaW.PrintWords Go.Proofs.Ytapfdhaohgkjeaa.XP
set_option linter.unusedVariables false
structure Pts (l : List S40) (pts : List Int) : Prop where
  up : Up pts
  zero : ∃ r, pts = 0 :: r
  has : ∀ c ∈ l, okP c.f0 → c.f0.f0 ∈ pts ∧ c.f0.f1 ∈ pts
end Go.Proofs.Ytapfdhaohgkjeaa.Q
end
/- The examples of the chapter, reckoned. -/
section
namespace Go.Proofs.Ytapfdhaohgkjeaa.Q
open Go.RowKit Go.Proofs.YtapfdhaohgkjeaaW.PrintWords Go.Proofs.Ytapfdhaohgkjeaa.XP
theorem awake_true : bitemporallaw04_awake.f 60 = some true := by decide +kernel
theorem awakeEv : Ev (fun k => (bitemporallaw04_awake.f k).bind fun t => some t) true :=
  Ev.bind (Ev.of bitemporallaw04_awake.mono awake_true) (Ev.now true)
end Go.Proofs.Ytapfdhaohgkjeaa.Q
end
/- The value at an instant and valid lists, plainly: the binary search, the reference's walk, and both Valid. -/
section
namespace Go.Proofs.Ytapfdhaohgkjeaa.Q
open Go.RowKit Go.Proofs.YtapfdhaohgkjeaaW.PrintWords Go.Proofs.Ytapfdhaohgkjeaa.XP
set_option linter.unusedVariables false
theorem half (i j : Nat) (hi : i < 4611686018427387904) (hj : j < 4611686018427387904) : wrap64 ((IntKind.u64.wrap (wrap64 ((i : Int) + (j : Int)))) / 2) = (((i + j) / 2 : Nat) : Int) := by
  have e : wrap64 ((i : Int) + (j : Int)) = (i : Int) + j := by unfold wrap64; omega
  rw [e]
  have : IntKind.u64.wrap ((i : Int) + j) = (i : Int) + j := by
    simp [IntKind.wrap, IntKind.signed, IntKind.bits]; omega
  rw [this]
  unfold wrap64; omega
theorem find1_eq (a b t : Int) : steps_find_1.f a b t = some (if a < t then -1 else if t < a then 1 else 0) := by
  unfold steps_find_1.f cmp_Compare_54.f cmp_isNaN_68.f
  simp only [bne_self_eq_false, Option.bind_some, Bool.false_eq_true, if_false]
  by_cases h : a < t
  · rw [if_pos h, if_pos h, Option.bind_some]
  · rw [if_neg h, if_neg h]
    by_cases h2 : t < a
    · rw [if_pos h2, if_pos h2, Option.bind_some]
    · rw [if_neg h2, if_neg h2, Option.bind_some]
theorem getD_left {α : Type} (a b : List α) (d : α) (i : Nat) (h : i < a.length) : (a ++ b).getD i d ∈ a := by
  rw [List.getD_eq_getElem?_getD, List.getElem?_append_left h, List.getElem?_eq_getElem h, Option.getD_some]; exact List.getElem_mem h
theorem getD_right {α : Type} (a b : List α) (d : α) (i : Nat) (h : a.length ≤ i) (h2 : i < a.length + b.length) : (a ++ b).getD i d ∈ b := by
  rw [List.getD_eq_getElem?_getD, List.getElem?_append_right h, List.getElem?_eq_getElem (by omega), Option.getD_some]; exact List.getElem_mem _
theorem search (a b : List S48) (t : Int) (hl : (a ++ b).length < 4611686018427387904) (ha : ∀ s ∈ a, s.f0 < t) (hb : ∀ s ∈ b, t ≤ s.f0) : ∀ (n i j : Nat), j - i ≤ n → i ≤ a.length → a.length ≤ j → j ≤ (a ++ b).length →
    ∃ f, Ev (fun k => slices_BinarySearchFunc_73__74.l0 k (a ++ b) t ((a ++ b).length : Int) (i : Int) (j : Int)) ((a.length : Int), f) ∧ (f = true ↔ ∃ s r, b = s :: r ∧ s.f0 = t) := by
  intro n
  have hlen : (a ++ b).length = a.length + b.length := by simp
  induction n with
  | zero =>
    intro i j hn hi hj hjl
    have hij : i = j := by omega
    have hia : i = a.length := by omega
    subst hij
    subst hia
    cases b with
    | nil =>
      refine ⟨false, Ev.step (fun k => by simp only [slices_BinarySearchFunc_73__74.l0]; rw [if_neg (by omega), if_neg (by rw [hlen]; simp)]) (Ev.now _), ?_⟩
      constructor
      · intro h; cases h
      · rintro ⟨s, r, h, _⟩; cases h
    | cons s r =>
      have hs : t ≤ s.f0 := hb s List.mem_cons_self
      refine ⟨decide (s.f0 = t), Ev.step (fun k => by
        simp only [slices_BinarySearchFunc_73__74.l0]
        rw [if_neg (by omega), if_pos (by rw [hlen]; simp; omega), if_pos (by omega), if_pos (by rw [hlen]; simp; omega), rd48_mid, find1_eq, Option.bind_some]) ?_, ?_⟩
      · have : (((if s.f0 < t then (-1 : Int) else if t < s.f0 then 1 else 0) == 0)) = decide (s.f0 = t) := by
          rw [if_neg (by omega)]
          by_cases c : t < s.f0
          · rw [if_pos c, decide_eq_false (by omega)]; rfl
          · rw [if_neg c, decide_eq_true (by omega)]; rfl
        rw [this]; exact Ev.now _
      · rw [decide_eq_true_iff]
        constructor
        · intro h; exact ⟨s, r, rfl, h⟩
        · rintro ⟨s', r', h, h2⟩; cases h; exact h2
  | succ n ih =>
    intro i j hn hi hj hjl
    by_cases hij : i < j
    · have hh : (i + j) / 2 < a.length + b.length := by omega
      by_cases c : (i + j) / 2 < a.length
      · obtain ⟨f, h1, h2⟩ := ih ((i + j) / 2 + 1) j (by omega) (by omega) hj hjl
        refine ⟨f, Ev.step (fun k => by
          simp only [slices_BinarySearchFunc_73__74.l0]
          rw [if_pos (by omega), half i j (by omega) (by omega), if_pos (by omega), if_pos (by rw [hlen]; omega), find1_eq, Option.bind_some, if_pos (ha _ (by rw [rd48_nat]; exact getD_left a b _ _ c)), if_pos (by decide), wrap_nat _ (by omega)]) h1, h2⟩
      · obtain ⟨f, h1, h2⟩ := ih i ((i + j) / 2) (by omega) hi (by omega) (by omega)
        have hge : t ≤ (rd_T48 (a ++ b) (((i + j) / 2 : Nat) : Int)).f0 := hb _ (by rw [rd48_nat]; exact getD_right a b _ _ (by omega) hh)
        refine ⟨f, Ev.step (fun k => by
          simp only [slices_BinarySearchFunc_73__74.l0]
          rw [if_pos (by omega), half i j (by omega) (by omega), if_pos (by omega), if_pos (by rw [hlen]; omega), find1_eq, Option.bind_some, if_neg (by omega)]) h1, h2⟩
    · exact ih i j (by omega) hi hj hjl
/-- The value at an instant, 0 outside the line. -/
def atV (l : List S48) (t : Int) : Int := if 0 ≤ t ∧ t < FV then vAt l t else 0
end Go.Proofs.Ytapfdhaohgkjeaa.Q
end
/- Valid lists of steps, plainly. -/
section
namespace Go.Proofs.Ytapfdhaohgkjeaa.Q
open Go.RowKit Go.Proofs.YtapfdhaohgkjeaaW.PrintWords Go.Proofs.Ytapfdhaohgkjeaa.XP
set_option linter.unusedVariables false
theorem valid_loop (l : List S48) (hl : l.length < 4611686018427387904) : ∀ (rest done : List S48) (p : S48), l = done ++ p :: rest →
    ∃ b, Ev (fun k => bitemporalref04_Valid.l0 k l ((done.length + 1 : Nat) : Int)) b ∧ (b = true ↔ Asc (p :: rest) ∧ ∀ s ∈ rest, s.f0 < FV) := by
  intro rest
  induction rest with
  | nil =>
    intro done p e
    have hsl : l.length = done.length + 1 := by rw [e]; simp
    exact ⟨true, Ev.step (fun k => by simp only [bitemporalref04_Valid.l0]; rw [if_neg (by omega)]) (Ev.now true), by simp [Asc]⟩
  | cons s rest ih =>
    intro done p e
    have hsl : l.length = done.length + 1 + (rest.length + 1) := by rw [e]; simp; omega
    have hp : rd_T48 l (done.length : Int) = p := by rw [e, rd48_mid]
    have hs : rd_T48 l ((done.length + 1 : Nat) : Int) = s := by
      rw [e, show done ++ p :: s :: rest = (done ++ [p]) ++ s :: rest by simp, show done.length + 1 = (done ++ [p]).length by simp, rd48_mid]
    have hw : wrap64 (((done.length + 1 : Nat) : Int) - 1) = (done.length : Int) := wrap_pred _ (by omega)
    have base : ∀ k, bitemporalref04_Valid.l0 (k + 1) l ((done.length + 1 : Nat) : Int) = (if s.f0 ≤ p.f0 then (some false) else (if s.f0 ≥ 1099511627776 then (some false) else (if s.f1 = p.f1 then (some false) else (bitemporalref04_Valid.l0 k l (wrap64 (((done.length + 1 : Nat) : Int) + 1)))))) := fun k => by
      simp only [bitemporalref04_Valid.l0]; rw [if_pos (by omega), if_pos (by omega), hw, if_pos (by omega), if_pos (by omega), hs, hp]
    by_cases c1 : s.f0 ≤ p.f0
    · refine ⟨false, Ev.step (fun k => by rw [base, if_pos c1]) (Ev.now false), ?_⟩
      simp only [Asc]
      constructor
      · intro h; cases h
      · rintro ⟨⟨h, _⟩, _⟩; omega
    · by_cases c2 : s.f0 ≥ 1099511627776
      · refine ⟨false, Ev.step (fun k => by rw [base, if_neg c1, if_pos c2]) (Ev.now false), ?_⟩
        constructor
        · intro h; cases h
        · rintro ⟨_, h⟩; have := h s List.mem_cons_self; simp only [FV] at this; omega
      · by_cases c3 : s.f1 = p.f1
        · refine ⟨false, Ev.step (fun k => by rw [base, if_neg c1, if_neg c2, if_pos c3]) (Ev.now false), ?_⟩
          constructor
          · intro h; cases h
          · rintro ⟨⟨_, h, _⟩, _⟩; exact absurd c3.symm h
        · obtain ⟨b, h1, h2⟩ := ih (done ++ [p]) s (by rw [e]; simp)
          rw [show (done ++ [p]).length = done.length + 1 by simp] at h1
          refine ⟨b, Ev.step (fun k => by rw [base, if_neg c1, if_neg c2, if_neg c3, wrap_nat _ (by omega)]) h1, ?_⟩
          rw [h2]
          simp only [Asc]
          constructor
          · rintro ⟨h3, h4⟩
            refine ⟨⟨by omega, fun h => c3 h.symm, h3⟩, fun x hx => ?_⟩
            rcases List.mem_cons.1 hx with rfl | hx
            · simp only [FV]; omega
            · exact h4 x hx
          · rintro ⟨h3, h4⟩
            exact ⟨h3.2.2, fun x hx => h4 x (List.mem_cons_of_mem _ hx)⟩
theorem validEv (l : List S48) (hl : l.length < 4611686018427387904) : ∃ b, Ev (fun k => bitemporalref04_Valid.f k l) b ∧ (b = true ↔ Valid l) := by
  cases l with
  | nil =>
    refine ⟨false, Ev.congr (fun k => by unfold bitemporalref04_Valid.f; rw [if_pos (by simp)]) (Ev.step (fun k => by simp only [bitemporalref04_Valid.j0]; rw [if_pos trivial]) (Ev.now false)), ?_⟩
    constructor
    · intro h; cases h
    · rintro ⟨_, ⟨n, r, h⟩, _⟩; cases h
  | cons p rest =>
    have hg : rd_T48 (p :: rest) 0 = p := rfl
    by_cases c : p.f0 = 0
    · obtain ⟨b, h1, h2⟩ := valid_loop (p :: rest) hl rest [] p rfl
      refine ⟨b, Ev.congr (fun k => by unfold bitemporalref04_Valid.f; rw [if_neg (by simp; omega), if_pos (by simp), hg, c]) (Ev.step (fun k => by simp only [bitemporalref04_Valid.j0]; rw [if_neg (by decide)]; rfl) h1), ?_⟩
      rw [h2]
      constructor
      · rintro ⟨h3, h4⟩
        refine ⟨h3, ⟨p.f1, rest, by cases p; simp at c; rw [c]⟩, fun s hs => ?_⟩
        rcases List.mem_cons.1 hs with rfl | hs
        · rw [c]; decide
        · exact h4 s hs
      · intro h; exact ⟨h.asc, fun s hs => h.lim s (List.mem_cons_of_mem _ hs)⟩
    · have hb : (p.f0 != 0) = true := by simpa using c
      refine ⟨false, Ev.congr (fun k => by unfold bitemporalref04_Valid.f; rw [if_neg (by simp; omega), if_pos (by simp), hg, hb]) (Ev.step (fun k => by simp only [bitemporalref04_Valid.j0]; rw [if_pos trivial]) (Ev.now false)), ?_⟩
      constructor
      · intro h; cases h
      · rintro ⟨_, ⟨n, r, h⟩, _⟩; cases h; exact absurd rfl c
/-- At most 24 steps, and valid. -/
theorem fineEv (l : List S48) : ∃ b, Ev (fun k => bitemporallaw04_fine.f k l) b ∧ (b = true ↔ l.length ≤ 24 ∧ Valid l) := by
  by_cases c : (l.length : Int) ≤ 24
  · obtain ⟨b, h1, h2⟩ := validEv l (by omega)
    refine ⟨b, Ev.congr (fun k => by unfold bitemporallaw04_fine.f; rw [if_pos c]) (Ev.bind h1 (Ev.now b)), ?_⟩
    rw [h2]
    exact ⟨fun h => ⟨by omega, h⟩, fun h => h.2⟩
  · refine ⟨false, Ev.congr (fun k => by unfold bitemporallaw04_fine.f; rw [if_neg c]) (Ev.now false), ?_⟩
    constructor
    · intro h; cases h
    · rintro ⟨h, _⟩; omega
end Go.Proofs.Ytapfdhaohgkjeaa.Q
end
/- The places of two lists, merged, plainly. -/
section
namespace Go.Proofs.Ytapfdhaohgkjeaa.Q
open Go.RowKit Go.Proofs.YtapfdhaohgkjeaaW.PrintWords Go.Proofs.Ytapfdhaohgkjeaa.XP
set_option linter.unusedVariables false
/-- A place is put behind, unless it stands there. -/
def pushP (l : List Int) (p : Int) : List Int := match l.getLast? with
  | none => l ++ [p]
  | some q => if q = p then l else l ++ [p]
theorem Up.snoc {l : List Int} {p : Int} (h : Up l) (hp : ∀ q ∈ l, q < p) : Up (l ++ [p]) := by
  refine List.pairwise_append.2 ⟨h, by simp, fun a ha b hb => ?_⟩
  rw [List.mem_singleton.1 hb]; exact hp a ha
structure Mg (a b : List S48) (pts : List Int) : Prop where
  up : Up pts
  mem : ∀ x, x ∈ pts ↔ (∃ s ∈ a, s.f0 = x) ∨ ∃ s ∈ b, s.f0 = x
theorem Asc.right : ∀ {a b : List S48}, Asc (a ++ b) → Asc b
  | [], _, h => h
  | _ :: _, _, h => Asc.right (Asc.tail h)
end Go.Proofs.Ytapfdhaohgkjeaa.Q
end
/- The combines of steps, plainly: valid lists whose values are the combined values. -/
section
namespace Go.Proofs.Ytapfdhaohgkjeaa.Q
open Go.RowKit Go.Proofs.YtapfdhaohgkjeaaW.PrintWords Go.Proofs.YtapfdhaohgkjeaaW.PrintMore Go.Proofs.Ytapfdhaohgkjeaa.XP
set_option linter.unusedVariables false
theorem Valid.ge {l : List S48} (h : Valid l) : ∀ s ∈ l, 0 ≤ s.f0 := by
  obtain ⟨n, r, e⟩ := h.head
  intro s hs
  have := h.asc
  rw [e] at this hs
  rcases List.mem_cons.1 hs with rfl | hs
  · exact Int.le_refl _
  · exact Int.le_of_lt (this.gt s hs)
/-- The second list may be empty. -/
def ValidE (l : List S48) : Prop := l = [] ∨ Valid l
theorem ValidE.asc {l : List S48} (h : ValidE l) : Asc l := by
  rcases h with rfl | h
  · trivial
  · exact h.asc
theorem ValidE.ge {l : List S48} (h : ValidE l) : ∀ s ∈ l, 0 ≤ s.f0 ∧ s.f0 < FV := by
  rcases h with rfl | h
  · intro s hs; cases hs
  · exact fun s hs => ⟨h.ge s hs, h.lim s hs⟩

abbrev opAdd (x y : Int) : Int := wrap64 (x + y)

abbrev opSub (x y : Int) : Int := wrap64 (x - y)

abbrev opMin (x y : Int) : Int := mn x y

abbrev opMax (x y : Int) : Int := mx x y

abbrev opClip (x y : Int) : Int := mx x 0

/-- What the reference reckons of two values. -/
def opR (n x y : Int) : Int := if n = 1 then wrap64 (x + y) else if n = 2 then wrap64 (x - y) else if n = 3 then mn x y else mx x y





end Go.Proofs.Ytapfdhaohgkjeaa.Q
end
/- AtLeast, plainly: the periods in which the value is at least so much. -/
section
namespace Go.Proofs.Ytapfdhaohgkjeaa.Q
open Go.RowKit Go.Proofs.YtapfdhaohgkjeaaW.PrintWords Go.Proofs.YtapfdhaohgkjeaaW.PrintMore Go.Proofs.Ytapfdhaohgkjeaa.XP
set_option linter.unusedVariables false
theorem rd38_nat (l : List S38) (i : Nat) : rd_T38 l (i : Int) = l.getD i z38 := by unfold rd_T38; rw [Int.toNat_natCast]
theorem rd38_mid (a : List S38) (x : S38) (b : List S38) : rd_T38 (a ++ x :: b) (a.length : Int) = x := by rw [rd38_nat, getD_mid]
/-- A period behind the others, grown into the last where they touch. -/
def joinS (out : List S38) (p q : Int) : List S38 := match out.getLast? with
  | none => out ++ [⟨p, q⟩]
  | some x => if x.f1 = p then out.dropLast ++ [⟨x.f0, q⟩] else out ++ [⟨p, q⟩]
def nxt : List S48 → Int
  | [] => FV
  | s :: _ => s.f0
def alG (k : Int) : List S48 → List S38 → List S38
  | [], out => out
  | s :: r, out => alG k r (if s.f1 < k then out else joinS out s.f0 (nxt r))
def al (k : Int) (l : List S48) : List S38 := alG k l []
theorem joinS_length (out : List S38) (p q : Int) : (joinS out p q).length ≤ out.length + 1 := by
  unfold joinS
  split
  · simp
  · split
    · simp
    · simp
theorem alG_length (k : Int) : ∀ (l : List S48) (out : List S38), (alG k l out).length ≤ out.length + l.length
  | [], out => by simp [alG]
  | s :: r, out => by
    unfold alG
    have h1 := alG_length k r (if s.f1 < k then out else joinS out s.f0 (nxt r))
    have h2 := joinS_length out s.f0 (nxt r)
    simp only [List.length_cons]
    by_cases c : s.f1 < k
    · rw [if_pos c] at h1 ⊢; omega
    · rw [if_neg c] at h1 ⊢; omega
/-- What the periods are so far, up to q. -/
structure AlS (k : Int) (pre : List S48) (q : Int) (A : List S38) : Prop where
  apart : A.Pairwise (fun x y => x.f1 < y.f0)
  ok : ∀ x ∈ A, 0 ≤ x.f0 ∧ x.f0 < x.f1 ∧ x.f1 ≤ q
  told : ∀ t, 0 ≤ t → t < q → ((∃ x ∈ A, x.f0 ≤ t ∧ t < x.f1) ↔ k ≤ vAt pre t)
theorem AlS.step {k : Int} {pre : List S48} {s : S48} {q : Int} {A : List S38} (h : AlS k pre s.f0 A) (h0 : 0 ≤ s.f0) (hq : s.f0 < q) : AlS k (pre ++ [s]) q (if s.f1 < k then A else joinS A s.f0 q) := by
  have tell : ∀ t, vAt (pre ++ [s]) t = if s.f0 ≤ t then s.f1 else vAt pre t := fun t => vAt_snoc pre s t
  by_cases c : s.f1 < k
  · rw [if_pos c]
    refine ⟨h.apart, fun x hx => by have := h.ok x hx; omega, fun t h1 h2 => ?_⟩
    rw [tell t]
    by_cases d : s.f0 ≤ t
    · rw [if_pos d]
      constructor
      · rintro ⟨x, hx, h3, h4⟩; have := h.ok x hx; omega
      · intro h5; omega
    · rw [if_neg d]; exact h.told t h1 (by omega)
  · rw [if_neg c]
    unfold joinS
    cases e : A.getLast? with
    | none =>
      have : A = [] := List.getLast?_eq_none_iff.1 e
      subst this
      simp only [List.nil_append]
      refine ⟨by simp, fun x hx => by rw [List.mem_singleton.1 hx]; exact ⟨h0, hq, Int.le_refl _⟩, fun t h1 h2 => ?_⟩
      rw [tell t]
      by_cases d : s.f0 ≤ t
      · rw [if_pos d]
        exact ⟨fun _ => by omega, fun _ => ⟨_, List.mem_singleton.2 rfl, d, h2⟩⟩
      · rw [if_neg d, ← h.told t h1 (by omega)]
        constructor
        · rintro ⟨x, hx, h3, h4⟩; rw [List.mem_singleton.1 hx] at h3; exact absurd h3 d
        · rintro ⟨x, hx, _⟩; cases hx
    | some z =>
      obtain ⟨B, rfl⟩ := List.getLast?_eq_some_iff.1 e
      have hz := h.ok z (by simp)
      have hpw := List.pairwise_append.1 h.apart
      simp only
      by_cases d : z.f1 = s.f0
      · rw [if_pos d, List.dropLast_concat]
        refine ⟨List.pairwise_append.2 ⟨hpw.1, by simp, fun a ha b hb => ?_⟩, fun x hx => ?_, fun t h1 h2 => ?_⟩
        · rw [List.mem_singleton.1 hb]; exact hpw.2.2 a ha z (by simp)
        · rcases List.mem_append.1 hx with hx | hx
          · have := h.ok x (by simp [hx]); omega
          · rw [List.mem_singleton.1 hx]; exact ⟨hz.1, by show z.f0 < q; omega, Int.le_refl _⟩
        · rw [tell t]
          by_cases d2 : s.f0 ≤ t
          · rw [if_pos d2]
            exact ⟨fun _ => by omega, fun _ => ⟨⟨z.f0, q⟩, by simp, by show z.f0 ≤ t; omega, h2⟩⟩
          · rw [if_neg d2, ← h.told t h1 (by omega)]
            constructor
            · rintro ⟨x, hx, h3, h4⟩
              rcases List.mem_append.1 hx with hx | hx
              · exact ⟨x, by simp [hx], h3, h4⟩
              · rw [List.mem_singleton.1 hx] at h3; exact ⟨z, by simp, h3, by omega⟩
            · rintro ⟨x, hx, h3, h4⟩
              rcases List.mem_append.1 hx with hx | hx
              · exact ⟨x, by simp [hx], h3, h4⟩
              · rw [List.mem_singleton.1 hx] at h3; exact ⟨⟨z.f0, q⟩, by simp, h3, h2⟩
      · rw [if_neg d]
        refine ⟨List.pairwise_append.2 ⟨h.apart, by simp, fun a ha b hb => ?_⟩, fun x hx => ?_, fun t h1 h2 => ?_⟩
        · rw [List.mem_singleton.1 hb]
          show a.f1 < s.f0
          rcases List.mem_append.1 ha with ha | ha
          · have := hpw.2.2 a ha z (by simp); omega
          · rw [List.mem_singleton.1 ha]; omega
        · rcases List.mem_append.1 hx with hx | hx
          · have := h.ok x hx; omega
          · rw [List.mem_singleton.1 hx]; exact ⟨h0, hq, Int.le_refl _⟩
        · rw [tell t]
          by_cases d2 : s.f0 ≤ t
          · rw [if_pos d2]
            exact ⟨fun _ => by omega, fun _ => ⟨⟨s.f0, q⟩, by simp, d2, h2⟩⟩
          · rw [if_neg d2, ← h.told t h1 (by omega)]
            constructor
            · rintro ⟨x, hx, h3, h4⟩
              rcases List.mem_append.1 hx with hx | hx
              · exact ⟨x, hx, h3, h4⟩
              · rw [List.mem_singleton.1 hx] at h3; exact absurd h3 d2
            · rintro ⟨x, hx, h3, h4⟩
              exact ⟨x, by rw [List.mem_append]; exact Or.inl hx, h3, h4⟩
theorem nxt_gt {s : S48} {r : List S48} (hA : Asc (s :: r)) (hF : ∀ x ∈ s :: r, x.f0 < FV) : s.f0 < nxt r := by
  cases r with
  | nil => exact hF s List.mem_cons_self
  | cons y r => exact hA.1
theorem alG_spec (k : Int) : ∀ (rest pre : List S48) (A : List S38), AlS k pre (nxt rest) A → Asc rest → (∀ s ∈ rest, 0 ≤ s.f0 ∧ s.f0 < FV) → AlS k (pre ++ rest) FV (alG k rest A)
  | [], pre, A, h, _, _ => by rw [List.append_nil]; exact h
  | s :: r, pre, A, h, hA, hF => by
    have := alG_spec k r (pre ++ [s]) _ (h.step (q := nxt r) (hF s List.mem_cons_self).1 (nxt_gt hA (fun x hx => (hF x hx).2))) hA.tail (fun x hx => hF x (List.mem_cons_of_mem _ hx))
    rw [List.append_assoc, List.singleton_append] at this
    exact this
theorem al_spec (k : Int) {l : List S48} (h : Valid l) : AlS k l FV (al k l) := by
  obtain ⟨n, r, e⟩ := h.head
  have := alG_spec k l [] [] ⟨List.Pairwise.nil, (fun x hx => by cases hx), fun t h1 h2 => by rw [e] at h2; have : t < 0 := h2; omega⟩ h.asc (fun s hs => ⟨h.ge s hs, h.lim s hs⟩)
  exact this
theorem setlast (B : List S38) (z x : S38) : (B ++ [z]).set B.length x = B ++ [x] := by rw [List.set_append_right _ _ (Nat.le_refl _)]; simp
theorem sal_loop (l : List S48) (k' : Int) (hl : l.length < 4294967296) : ∀ (rest done : List S48) (out : List S38), l = done ++ rest → out.length ≤ done.length → Ev (fun k => steps_AtLeast.l0 k l k' out l (l.length : Int) (done.length : Int)) (alG k' rest out) := by
  intro rest
  induction rest with
  | nil =>
    intro done out e ho
    have hsl : l.length = done.length := by rw [e]; simp
    exact Ev.step (fun k => by simp only [steps_AtLeast.l0]; rw [if_neg (by omega)]) (Ev.now out)
  | cons s rest ih =>
    intro done out e ho
    have hsl : l.length = done.length + (rest.length + 1) := by rw [e]; simp
    have hs : rd_T48 l (done.length : Int) = s := by rw [e, rd48_mid]
    have hn : ∀ k, steps_AtLeast.l0 (k + 1) l k' out l (l.length : Int) (done.length : Int) = steps_AtLeast.j1 k l k' out (nxt rest) l (l.length : Int) (done.length : Int) s.f0 s.f1 := fun k => by
      simp only [steps_AtLeast.l0]
      rw [if_pos (by omega), if_pos (by omega), if_pos (by omega), wrap_nat _ (by omega), hs]
      cases rest with
      | nil => simp only [List.length_nil] at hsl; rw [if_neg (by omega)]; rfl
      | cons y r =>
        simp only [List.length_cons] at hsl
        have hy : rd_T48 l ((done.length + 1 : Nat) : Int) = y := by
          rw [e, show done ++ s :: y :: r = (done ++ [s]) ++ y :: r by simp, show done.length + 1 = (done ++ [s]).length by simp, rd48_mid]
        rw [if_pos (by omega), if_pos (by omega), hy]; rfl
    refine Ev.step hn ?_
    have hj := joinS_length out s.f0 (nxt rest)
    have := ih (done ++ [s]) (if s.f1 < k' then out else joinS out s.f0 (nxt rest)) (by rw [e]; simp) (by split <;> simp <;> omega)
    rw [show (done ++ [s]).length = done.length + 1 by simp] at this
    refine Ev.step (fun k => ?_) this
    simp only [steps_AtLeast.j1]
    rw [wrap_nat _ (by omega)]
    by_cases c : s.f1 < k'
    · rw [if_pos c, if_pos c]
    · rw [if_neg c, if_neg c]
      unfold joinS
      rcases List.eq_nil_or_concat out with rfl | ⟨B, z, rfl⟩
      · simp
      · rw [List.concat_eq_append] at *
        have el : (B ++ [z]).length = B.length + 1 := by simp
        rw [List.getLast?_concat]
        simp only
        rw [el, if_pos (by omega), wrap_pred _ (by omega), if_pos (by omega), if_pos (by omega), rd38_mid]
        by_cases d : z.f1 = s.f0
        · rw [if_pos d, if_pos d, Int.toNat_natCast, setlast, List.dropLast_concat]
        · rw [if_neg d, if_neg d, if_pos (by omega)]
theorem salEv (l : List S48) (k' : Int) (hl : l.length < 4294967296) : Ev (fun k => steps_AtLeast.f k l k') (al k' l) := sal_loop l k' hl l [] [] rfl (by simp)
theorem join_eq {A : List S38} {p q : Int} (hA : ∀ x ∈ A, x.f1 ≤ p) (hpq : p < q) (hl : A.length < 4294967296) : bitemporalref03_Join.f A p q = some (joinS A p q) := by
  unfold bitemporalref03_Join.f joinS
  rcases List.eq_nil_or_concat A with rfl | ⟨B, z, rfl⟩
  · simp
  · rw [List.concat_eq_append] at *
    have el : (B ++ [z]).length = B.length + 1 := by simp
    have hz := hA z (by simp)
    rw [List.getLast?_concat]
    simp only
    rw [el, if_pos (by omega), wrap_pred _ (by omega), if_pos (by omega), if_pos (by omega), rd38_mid]
    by_cases d : z.f1 = p
    · have hm : mx z.f1 q = q := by unfold mx; rw [if_pos (by omega)]
      rw [if_pos (by omega), if_pos (by omega), if_pos d, hm, Int.toNat_natCast, List.dropLast_concat]
      simp only [Option.bind_some, List.take_left', List.nil_append]
      rw [if_pos (by simp; omega), if_pos (by omega)]
    · rw [if_neg (by omega), if_neg d, if_pos (by omega)]
theorem ral_loop (l : List S48) (k' : Int) (hl : l.length < 4294967296) (hA : Asc l) (hF : ∀ s ∈ l, 0 ≤ s.f0 ∧ s.f0 < FV) : ∀ (rest done : List S48) (out : List S38), l = done ++ rest → out.length ≤ done.length → AlS k' done (nxt rest) out → Ev (fun k => bitemporalref04_AtLeast.l0 k l k' out (done.length : Int)) (alG k' rest out) := by
  intro rest
  induction rest with
  | nil =>
    intro done out e ho hs
    have hsl : l.length = done.length := by rw [e]; simp
    exact Ev.step (fun k => by simp only [bitemporalref04_AtLeast.l0]; rw [if_neg (by omega)]) (Ev.now out)
  | cons s rest ih =>
    intro done out e ho has
    have hsl : l.length = done.length + (rest.length + 1) := by rw [e]; simp
    have hs : rd_T48 l (done.length : Int) = s := by rw [e, rd48_mid]
    have hAr : Asc (s :: rest) := (e ▸ hA : Asc (done ++ s :: rest)).right
    have hFr : ∀ x ∈ s :: rest, 0 ≤ x.f0 ∧ x.f0 < FV := fun x hx => hF x (by rw [e]; exact List.mem_append_right _ hx)
    have hgt := nxt_gt hAr (fun x hx => (hFr x hx).2)
    have hj := joinS_length out s.f0 (nxt rest)
    have := ih (done ++ [s]) (if s.f1 < k' then out else joinS out s.f0 (nxt rest)) (by rw [e]; simp) (by split <;> simp <;> omega) (has.step (hFr s List.mem_cons_self).1 hgt)
    rw [show (done ++ [s]).length = done.length + 1 by simp] at this
    refine Ev.step (fun k => ?_) this
    have hJ : bitemporalref03_Join.f out s.f0 (nxt rest) = some (joinS out s.f0 (nxt rest)) := join_eq (fun x hx => (has.ok x hx).2.2) hgt (by omega)
    simp only [bitemporalref04_AtLeast.l0]
    rw [if_pos (by omega), wrap_nat _ (by omega), hs]
    cases rest with
    | nil =>
      simp only [List.length_nil] at hsl
      have hn : nxt [] = (1099511627776 : Int) := rfl
      rw [hn] at hJ ⊢
      rw [if_neg (by omega), if_pos (by omega)]
      by_cases c : s.f1 < k'
      · rw [if_neg (by omega), if_pos c]
      · rw [if_pos (by omega), if_neg c, hJ, Option.bind_some]
    | cons y r =>
      simp only [List.length_cons] at hsl
      have hy : rd_T48 l ((done.length + 1 : Nat) : Int) = y := by
        rw [e, show done ++ s :: y :: r = (done ++ [s]) ++ y :: r by simp, show done.length + 1 = (done ++ [s]).length by simp, rd48_mid]
      have hn : nxt (y :: r) = y.f0 := rfl
      rw [hn] at hJ ⊢
      rw [if_pos (by omega), if_pos (by omega), if_pos (by omega), hy]
      by_cases c : s.f1 < k'
      · rw [if_neg (by omega), if_pos c]
      · rw [if_pos (by omega), if_neg c, hJ, Option.bind_some]
theorem ralEv {l : List S48} (h : Valid l) (k' : Int) (hl : l.length < 4294967296) : Ev (fun k => bitemporalref04_AtLeast.f k l k') (al k' l) := by
  obtain ⟨n, r, e⟩ := h.head
  exact ral_loop l k' hl h.asc (fun s hs => ⟨h.ge s hs, h.lim s hs⟩) l [] [] rfl (by simp) ⟨List.Pairwise.nil, (fun x hx => by cases hx), fun t h1 h2 => by rw [e] at h2; have : t < 0 := h2; omega⟩
end Go.Proofs.Ytapfdhaohgkjeaa.Q
end
/- Levels, plainly: the periods of every level, put together. -/
section
namespace Go.Proofs.Ytapfdhaohgkjeaa.Q
open Go.RowKit Go.Proofs.YtapfdhaohgkjeaaW.PrintWords Go.Proofs.YtapfdhaohgkjeaaW.PrintMore Go.Proofs.Ytapfdhaohgkjeaa.XP
set_option linter.unusedVariables false
/-- One level, told by what is done and what is open. -/
def ocStep (k : Int) (st : List S38 × Option Int) (s : S48) : List S38 × Option Int :=
  if s.f1 < k then (match st.2 with | none => st | some a => (st.1 ++ [⟨a, s.f0⟩], none)) else (st.1, some (st.2.getD s.f0))
def oc (k : Int) (l : List S48) : List S38 × Option Int := l.foldl (ocStep k) ([], none)
def opl (o : Option Int) (q : Int) : List S38 := match o with | none => [] | some a => [⟨a, q⟩]
theorem oc_snoc (k : Int) (l : List S48) (s : S48) : oc k (l ++ [s]) = ocStep k (oc k l) s := by unfold oc; rw [List.foldl_append]; rfl
theorem joinS_new {O : List S38} {p q : Int} (h : ∀ x ∈ O, x.f1 < p) : joinS O p q = O ++ [⟨p, q⟩] := by
  unfold joinS
  cases e : O.getLast? with
  | none => rfl
  | some x =>
    have := h x (List.mem_of_getLast? e)
    simp only
    rw [if_neg (by omega)]
theorem joinS_grow (O : List S38) (a p q : Int) : joinS (O ++ [⟨a, p⟩]) p q = O ++ [⟨a, q⟩] := by
  unfold joinS
  rw [List.getLast?_concat]
  simp only
  rw [if_pos trivial, List.dropLast_concat]
theorem alG_oc (k : Int) : ∀ (rest pre : List S48), Asc rest → (∀ s ∈ rest, s.f0 < FV) → (∀ x ∈ (oc k pre).1, x.f1 < nxt rest) → alG k rest ((oc k pre).1 ++ opl (oc k pre).2 (nxt rest)) = (oc k (pre ++ rest)).1 ++ opl (oc k (pre ++ rest)).2 FV
  | [], pre, _, _, _ => by rw [List.append_nil]; rfl
  | s :: r, pre, hA, hF, hO => by
    have hgt := nxt_gt hA hF
    have ih := alG_oc k r (pre ++ [s]) hA.tail (fun x hx => hF x (List.mem_cons_of_mem _ hx))
    rw [oc_snoc, List.append_assoc, List.singleton_append] at ih
    unfold alG
    have hO' : ∀ x ∈ (oc k pre).1, x.f1 < s.f0 := hO
    have hn : nxt (s :: r) = s.f0 := rfl
    rw [hn]
    by_cases c : s.f1 < k
    · rw [if_pos c]
      cases e : (oc k pre).2 with
      | none =>
        have e2 : ocStep k (oc k pre) s = oc k pre := by unfold ocStep; rw [if_pos c, e]
        rw [e2, e] at ih
        exact ih (fun x hx => by have := hO' x hx; omega)
      | some a =>
        have e2 : ocStep k (oc k pre) s = ((oc k pre).1 ++ [⟨a, s.f0⟩], none) := by unfold ocStep; rw [if_pos c, e]
        rw [e2] at ih
        have := ih (fun x hx => by
          rcases List.mem_append.1 hx with hx | hx
          · have := hO' x hx; omega
          · rw [List.mem_singleton.1 hx]; exact hgt)
        simp only [opl, List.append_nil] at this ⊢
        exact this
    · rw [if_neg c]
      have e2 : ocStep k (oc k pre) s = ((oc k pre).1, some ((oc k pre).2.getD s.f0)) := by unfold ocStep; rw [if_neg c]
      rw [e2] at ih
      have := ih (fun x hx => by have := hO' x hx; omega)
      rw [← this]
      cases e : (oc k pre).2 with
      | none =>
        simp only [opl, List.append_nil, Option.getD_none]
        rw [joinS_new hO']
      | some a =>
        simp only [opl, Option.getD_some]
        rw [joinS_grow]
theorem al_oc (k : Int) {l : List S48} (h : Valid l) : al k l = (oc k l).1 ++ opl (oc k l).2 FV := by
  have := alG_oc k l [] h.asc h.lim (fun x hx => by cases hx)
  exact this
/-- The starts of the levels that are open, the lowest first. -/
def ex (rs : List S59) : List Int := rs.reverse.flatMap (fun s => List.replicate s.f1.toNat s.f0)
theorem ex_cons (s : S59) (r : List S59) : ex (s :: r) = ex r ++ List.replicate s.f1.toNat s.f0 := by unfold ex; simp
theorem ex_length : ∀ rs : List S59, (∀ s ∈ rs, 1 ≤ s.f1) → ((ex rs).length : Int) = sumM rs
  | [], _ => rfl
  | s :: r, h => by
    have h1 := ex_length r (fun x hx => h x (List.mem_cons_of_mem _ hx))
    have := h s List.mem_cons_self
    rw [ex_cons, List.length_append, List.length_replicate, sumM]; omega
theorem pop_spec (p : Int) (n : Nat) : ∀ (rs : List S59) (out : List S38), (∀ s ∈ rs, 1 ≤ s.f1) → (n : Int) ≤ sumM rs →
    ∃ rs' out', popR p n (sumM rs) rs out = ((n : Int), rs', out') ∧ (∀ s ∈ rs', 1 ≤ s.f1) ∧ sumM rs' = n ∧ ex rs' = (ex rs).take n ∧ out'.Perm (out ++ ((ex rs).drop n).map (fun a => (⟨a, p⟩ : S38)))
  | [], out, h, hn => by
    have : n = 0 := by simp [sumM] at hn; omega
    subst this
    exact ⟨[], out, by simp [popR, sumM], h, rfl, by simp [ex], by simp [ex]⟩
  | s :: r, out, h, hn => by
    have hs := h s List.mem_cons_self
    have hr : ∀ x ∈ r, 1 ≤ x.f1 := fun x hx => h x (List.mem_cons_of_mem _ hx)
    have hl := ex_length r hr
    have hl2 := ex_length (s :: r) h
    by_cases c : (n : Int) < sumM (s :: r)
    · by_cases d : s.f1 ≤ sumM (s :: r) - n
      · have e1 : sumM (s :: r) - s.f1 = sumM r := by simp only [sumM]; omega
        obtain ⟨rs', out', h1, h2, h3, h4, h5⟩ := pop_spec p n r (out ++ List.replicate s.f1.toNat ⟨s.f0, p⟩) hr (by simp only [sumM] at *; omega)
        refine ⟨rs', out', ?_, h2, h3, ?_, ?_⟩
        · unfold popR; rw [if_pos c, if_pos d, e1]; exact h1
        · rw [h4, ex_cons, List.take_append_of_le_length (by simp only [sumM] at *; omega)]
        · refine h5.trans ?_
          rw [ex_cons, List.drop_append_of_le_length (by simp only [sumM] at *; omega), List.map_append, List.map_replicate, List.append_assoc]
          exact List.Perm.append_left _ (List.perm_append_comm)
      · have hn2 : sumM r < n := by simp only [sumM] at *; omega
        have e2 : n = (ex r).length + (s.f1 - (sumM (s :: r) - n)).toNat := by simp only [sumM] at *; omega
        refine ⟨⟨s.f0, s.f1 - (sumM (s :: r) - n)⟩ :: r, out ++ List.replicate (sumM (s :: r) - n).toNat ⟨s.f0, p⟩, ?_, ?_, ?_, ?_, ?_⟩
        · unfold popR; rw [if_pos c, if_neg d]
        · intro x hx
          rcases List.mem_cons.1 hx with rfl | hx
          · show 1 ≤ s.f1 - (sumM (s :: r) - n); omega
          · exact hr x hx
        · simp only [sumM]; omega
        · rw [ex_cons, ex_cons]
          have : (ex r ++ List.replicate s.f1.toNat s.f0).take n = ex r ++ (List.replicate s.f1.toNat s.f0).take (s.f1 - (sumM (s :: r) - n)).toNat := by
            conv => lhs; rw [e2]
            rw [List.take_length_add_append]
          rw [this, List.take_replicate]
          congr 2
          simp only [sumM] at *; omega
        · rw [ex_cons]
          have : (ex r ++ List.replicate s.f1.toNat s.f0).drop n = (List.replicate s.f1.toNat s.f0).drop (s.f1 - (sumM (s :: r) - n)).toNat := by
            conv => lhs; rw [e2]
            rw [List.drop_length_add_append]
          rw [this, List.drop_replicate, List.map_replicate]
          have e3 : s.f1.toNat - (s.f1 - (sumM (s :: r) - n)).toNat = (sumM (s :: r) - n).toNat := by simp only [sumM] at *; omega
          rw [e3]
    · have e : sumM (s :: r) = n := by omega
      refine ⟨s :: r, out, ?_, h, e, ?_, ?_⟩
      · rw [popR_done _ _ _ _ _ c, e]
      · rw [List.take_of_length_le (by omega)]
      · rw [List.drop_of_length_le (by omega)]; simp
/-- All levels together. -/
def cat (N : Nat) (f : Nat → List S38) : List S38 := (List.range N).flatMap f
theorem flat_perm {α β : Type} (f g : α → List β) : ∀ l : List α, (l.flatMap (fun k => f k ++ g k)).Perm (l.flatMap f ++ l.flatMap g)
  | [] => by simp
  | a :: r => by
    have ih := flat_perm f g r
    simp only [List.flatMap_cons]
    rw [List.append_assoc, List.append_assoc]
    refine List.Perm.append_left _ ?_
    refine (List.Perm.append_left _ ih).trans ?_
    rw [← List.append_assoc, ← List.append_assoc]
    exact List.Perm.append_right _ List.perm_append_comm
theorem flat_congr {α β : Type} {f g : α → List β} : ∀ {l : List α}, (∀ a ∈ l, f a = g a) → l.flatMap f = l.flatMap g
  | [], _ => rfl
  | a :: r, h => by rw [List.flatMap_cons, List.flatMap_cons, h a List.mem_cons_self, flat_congr (fun x hx => h x (List.mem_cons_of_mem _ hx))]
theorem flat_from {β : Type} (g : Int → β) (n : Nat) : ∀ (E : List Int) (i m : Nat), E.length ≤ m → (List.range' i m).flatMap (fun j => if n ≤ j then ((E[j - i]?).toList).map g else []) = (E.drop (n - i)).map g
  | [], i, m, _ => by
    simp only [List.getElem?_nil, Option.toList_none, List.map_nil, ite_self, List.drop_nil]
    simp
  | e :: E, i, 0, h => by simp at h
  | e :: E, i, m + 1, h => by
    have ih := flat_from g n E (i + 1) m (by simpa using h)
    rw [List.range'_succ, List.flatMap_cons]
    have : (List.range' (i + 1) m).flatMap (fun j => if n ≤ j then (((e :: E)[j - i]?).toList).map g else []) = (List.range' (i + 1) m).flatMap (fun j => if n ≤ j then ((E[j - (i + 1)]?).toList).map g else []) := by
      refine flat_congr (fun j hj => ?_)
      have hj2 := List.mem_range'_1.1 hj
      rw [show j - i = (j - (i + 1)) + 1 by omega, List.getElem?_cons_succ]
    rw [this, ih, Nat.sub_self]
    by_cases c : n ≤ i
    · rw [if_pos c, show n - i = 0 by omega, show n - (i + 1) = 0 by omega]; simp
    · rw [if_neg c, show n - i = (n - (i + 1)) + 1 by omega]; simp
/-- The stack and the levels agree. -/
structure Agree (N : Nat) (pre : List S48) (st : LSt) : Prop where
  one : ∀ s ∈ st.2.1, 1 ≤ s.f1
  sum : sumM st.2.1 = st.1
  small : st.1 ≤ N
  opens : ∀ k : Nat, (oc ((k : Int) + 1) pre).2 = (ex st.2.1)[k]?
  out : st.2.2.Perm (cat N (fun k => (oc ((k : Int) + 1) pre).1))
theorem Agree.nil (N : Nat) : Agree N [] (0, [], []) := ⟨(fun s h => by cases h), rfl, by simp, fun k => by simp [oc, ex], by simp [cat, oc]⟩
theorem Agree.step {N : Nat} {pre : List S48} {st : LSt} (h : Agree N pre st) (s : S48) (n : Nat) (hn : n ≤ N) (hs : ∀ k : Nat, s.f1 < (k : Int) + 1 ↔ n ≤ k) : Agree N (pre ++ [s]) (setSt s.f0 n st) := by
  obtain ⟨ht, rs, out⟩ := st
  have hsum : sumM rs = ht := h.sum
  have hlen := ex_length rs h.one
  have ho := h.opens
  have hout := h.out
  have hsm := h.small
  simp only at ho hout hsm
  unfold setSt
  simp only
  by_cases c : ht < n
  · rw [if_pos c]
    have e1 : ex (⟨s.f0, (n : Int) - ht⟩ :: rs) = ex rs ++ List.replicate ((n : Int) - ht).toNat s.f0 := ex_cons _ _
    refine ⟨fun x hx => ?_, ?_, by show (n : Int) ≤ N; omega, fun k => ?_, ?_⟩
    · rcases List.mem_cons.1 hx with rfl | hx
      · show 1 ≤ (n : Int) - ht; omega
      · exact h.one x hx
    · show sumM (_ :: rs) = (n : Int); simp only [sumM]; omega
    · rw [oc_snoc]
      show (ocStep _ _ s).2 = (ex (⟨s.f0, (n : Int) - ht⟩ :: rs))[k]?
      rw [e1]
      unfold ocStep
      by_cases d : s.f1 < (k : Int) + 1
      · have := (hs k).1 d
        rw [if_pos d, List.getElem?_append_right (by omega)]
        have e2 : (ex rs)[k]? = none := List.getElem?_eq_none (by omega)
        have e3 := ho k
        rw [e2] at e3
        rw [e3]
        simp only
        rw [e3, List.getElem?_eq_none (by rw [List.length_replicate]; omega)]
      · have : ¬ n ≤ k := fun x => d ((hs k).2 x)
        rw [if_neg d]
        simp only
        rw [ho k]
        by_cases x : k < (ex rs).length
        · rw [List.getElem?_append_left x, List.getElem?_eq_getElem x]; rfl
        · rw [List.getElem?_append_right (by omega), List.getElem?_eq_none (by omega), List.getElem?_replicate, if_pos (by omega)]; rfl
    · show out.Perm _
      refine hout.trans (List.Perm.of_eq ?_)
      unfold cat
      refine flat_congr (fun k hk => ?_)
      rw [oc_snoc]
      unfold ocStep
      by_cases d : s.f1 < (k : Int) + 1
      · have := (hs k).1 d
        have e2 : (ex rs)[k]? = none := List.getElem?_eq_none (by omega)
        have e3 := ho k
        rw [e2] at e3
        rw [if_pos d, e3]
      · rw [if_neg d]
  · rw [if_neg c]
    obtain ⟨rs', out', h1, h2, h3, h4, h5⟩ := pop_spec s.f0 n rs out h.one (by omega)
    rw [← hsum, h1]
    refine ⟨h2, h3, by show (n : Int) ≤ N; omega, fun k => ?_, ?_⟩
    · rw [oc_snoc]
      show (ocStep _ _ s).2 = (ex rs')[k]?
      rw [h4]
      unfold ocStep
      by_cases d : s.f1 < (k : Int) + 1
      · have := (hs k).1 d
        rw [if_pos d, List.getElem?_take, if_neg (by omega)]
        cases e : (oc ((k : Int) + 1) pre).2 with
        | none => exact e
        | some a => rfl
      · have : ¬ n ≤ k := fun x => d ((hs k).2 x)
        rw [if_neg d, List.getElem?_take, if_pos (by omega)]
        simp only
        rw [ho k, List.getElem?_eq_getElem (by omega)]; rfl
    · show out'.Perm _
      refine h5.trans ?_
      have e6 : cat N (fun k => (oc ((k : Int) + 1) (pre ++ [s])).1) = cat N (fun k => (oc ((k : Int) + 1) pre).1 ++ (if n ≤ k then (((ex rs)[k - 0]?).toList).map (fun a => (⟨a, s.f0⟩ : S38)) else [])) := by
        unfold cat
        refine flat_congr (fun k hk => ?_)
        rw [oc_snoc]
        unfold ocStep
        by_cases d : s.f1 < (k : Int) + 1
        · rw [if_pos d, if_pos ((hs k).1 d), Nat.sub_zero, ← ho k]
          cases e : (oc ((k : Int) + 1) pre).2 with
          | none => simp
          | some a => simp
        · rw [if_neg d, if_neg (fun x => d ((hs k).2 x))]; simp
      rw [e6]
      unfold cat at hout ⊢
      refine List.Perm.trans ?_ (flat_perm _ _ _).symm
      refine List.Perm.append hout (List.Perm.of_eq ?_)
      have := flat_from (fun a => (⟨a, s.f0⟩ : S38)) n (ex rs) 0 N (by omega)
      rw [List.range_eq_range', this, Nat.sub_zero]
theorem agree_levels (N : Nat) (hN : N ≤ 1048576) (l : List S48) (hv : ∀ s ∈ l, s.f1 ≤ N) : ∀ (rest pre : List S48) (st : LSt), l = pre ++ rest → Agree N pre st → Agree N l (rest.foldl (fun st s => setSt s.f0 (mn (mx s.f1 0) 1048576) st) st)
  | [], pre, st, e, h => by rw [List.append_nil] at e; rw [e]; exact h
  | s :: r, pre, st, e, h => by
    have h1 := hv s (by rw [e]; simp)
    have e1 : mn (mx s.f1 0) 1048576 = (s.f1.toNat : Int) := by
      unfold mn mx
      by_cases c : s.f1 < 0
      · rw [if_pos c, if_neg (by omega)]; omega
      · rw [if_neg c, if_neg (by omega)]; omega
    rw [List.foldl_cons]
    refine agree_levels N hN l hv r (pre ++ [s]) _ (by rw [e]; simp) ?_
    show Agree N (pre ++ [s]) (setSt s.f0 (mn (mx s.f1 0) 1048576) st)
    rw [e1]
    exact h.step s _ (by omega) (fun k => by omega)
theorem levels_perm {N : Nat} (hN : N ≤ 1048576) {l : List S48} (h : Valid l) (hv : ∀ s ∈ l, s.f1 ≤ N) : (levelsOut l).Perm (cat N (fun k => al ((k : Int) + 1) l)) := by
  have hA := agree_levels N hN l hv l [] (0, [], []) rfl (Agree.nil N)
  have e : l.foldl (fun st s => setSt s.f0 (mn (mx s.f1 0) 1048576) st) (0, [], []) = levelsSt l := rfl
  rw [e] at hA
  unfold levelsOut setSt
  have hlen := ex_length _ hA.one
  have hsum := hA.sum
  have hsm := hA.small
  rw [if_neg (by omega), ← hsum]
  obtain ⟨rs', out', h1, h2, h3, h4, h5⟩ := pop_spec 1099511627776 0 (levelsSt l).2.1 (levelsSt l).2.2 hA.one (by omega)
  rw [show ((0 : Nat) : Int) = 0 from rfl] at h1
  rw [h1]
  refine h5.trans ?_
  rw [List.drop_zero]
  have e6 : cat N (fun k => al ((k : Int) + 1) l) = cat N (fun k => (oc ((k : Int) + 1) l).1 ++ (if 0 ≤ k then (((ex (levelsSt l).2.1)[k - 0]?).toList).map (fun a => (⟨a, FV⟩ : S38)) else [])) := by
    unfold cat
    refine flat_congr (fun k hk => ?_)
    rw [al_oc _ h, if_pos (Nat.zero_le _), Nat.sub_zero, ← hA.opens k]
    cases e : (oc ((k : Int) + 1) l).2 with
    | none => simp [opl]
    | some a => simp [opl]
  rw [e6]
  unfold cat
  refine List.Perm.trans ?_ (flat_perm _ _ _).symm
  refine List.Perm.append hA.out (List.Perm.of_eq ?_)
  have := flat_from (fun a => (⟨a, FV⟩ : S38)) 0 (ex (levelsSt l).2.1) 0 N (by omega)
  rw [List.range_eq_range', this, Nat.sub_zero, List.drop_zero]
end Go.Proofs.Ytapfdhaohgkjeaa.Q
end
/- The reference's Levels, plainly: sorted placing, and that it is the sorted list of all levels. -/
section
namespace Go.Proofs.Ytapfdhaohgkjeaa.Q
open Go.RowKit Go.Proofs.YtapfdhaohgkjeaaW.PrintWords Go.Proofs.YtapfdhaohgkjeaaW.PrintMore Go.Proofs.Ytapfdhaohgkjeaa.XP
set_option linter.unusedVariables false
theorem cmp_le (x y : S38) : ∃ c, bitemporalref01_Compare.f x.f0 x.f1 y.f0 y.f1 = some c ∧ (c ≤ 0 ↔ ¬ perLt y x) := by
  unfold bitemporalref01_Compare.f perLt
  by_cases h : (x.f0 == y.f0 && (x.f1 == y.f1)) = true
  · rw [if_pos h]
    simp only [Bool.and_eq_true, beq_iff_eq] at h
    exact ⟨0, rfl, by omega⟩
  · rw [if_neg h]
    simp only [Bool.and_eq_true, beq_iff_eq] at h
    by_cases c : x.f0 < y.f0
    · rw [if_pos c]; exact ⟨-1, rfl, by omega⟩
    · rw [if_neg c]
      by_cases d : x.f0 = y.f0
      · rw [if_pos d]
        by_cases e : x.f1 < y.f1
        · rw [if_pos e]; exact ⟨-1, rfl, by omega⟩
        · rw [if_neg e]; exact ⟨1, rfl, by omega⟩
      · rw [if_neg d]; exact ⟨1, rfl, by omega⟩
/-- In order. -/
abbrev Ord (l : List S38) : Prop := l.Pairwise (fun a b => ¬ perLt b a)
theorem perLt_not {x y : S38} (h1 : ¬ perLt y x) (h2 : ¬ perLt x y) : x = y := by
  unfold perLt at h1 h2
  cases x; cases y
  simp only at h1 h2
  rw [S38.mk.injEq]; omega
theorem ord_uniq : ∀ {a b : List S38}, Ord a → Ord b → a.Perm b → a = b
  | [], b, _, _, h => h.nil_eq
  | x :: r, [], _, _, h => h.eq_nil
  | x :: r, y :: q, ha, hb, h => by
    have pa := List.pairwise_cons.1 ha
    have pb := List.pairwise_cons.1 hb
    have e : x = y := by
      rcases List.mem_cons.1 (h.mem_iff.1 (List.mem_cons_self : x ∈ x :: r)) with e | hx
      · exact e
      · rcases List.mem_cons.1 (h.mem_iff.2 (List.mem_cons_self : y ∈ y :: q)) with e | hy
        · exact e.symm
        · exact perLt_not (pa.1 y hy) (pb.1 x hx)
    subst e
    rw [ord_uniq pa.2 pb.2 (h.cons_inv)]
open Classical in
/-- A period among ordered ones. -/
noncomputable def plc : List S38 → S38 → List S38
  | [], p => [p]
  | a :: r, p => if perLt p a then p :: a :: r else a :: plc r p
theorem plc_perm : ∀ (l : List S38) (p : S38), (plc l p).Perm (p :: l)
  | [], p => List.Perm.refl _
  | a :: r, p => by
    unfold plc
    split
    · exact List.Perm.refl _
    · exact ((plc_perm r p).cons a).trans (List.Perm.swap p a r)
theorem plc_ord : ∀ {l : List S38} (p : S38), Ord l → Ord (plc l p)
  | [], p, _ => by simp [plc]
  | a :: r, p, h => by
    have h2 := List.pairwise_cons.1 h
    unfold plc
    split
    · rename_i c
      refine List.pairwise_cons.2 ⟨fun y hy => ?_, h⟩
      rcases List.mem_cons.1 hy with rfl | hy
      · unfold perLt at *; omega
      · have := h2.1 y hy
        unfold perLt at *; omega
    · rename_i c
      refine List.pairwise_cons.2 ⟨fun y hy => ?_, plc_ord p h2.2⟩
      rcases List.mem_cons.1 ((plc_perm r p).mem_iff.1 hy) with rfl | hy
      · exact c
      · exact h2.1 y hy
theorem place_loop (x0 : List S38) (p : S38) (hl : x0.length < 4294967296) : ∀ (rest done : List S38), x0 = done ++ rest → Ev (fun k => bitemporalref04_place.l0 k x0 done (done.length : Int) p.f0 p.f1) (done ++ plc rest p) := by
  intro rest
  induction rest with
  | nil =>
    intro done e
    have hsl : x0.length = done.length := by rw [e]; simp
    have hd : x0.drop done.length = [] := List.drop_of_length_le (by omega)
    refine Ev.step (fun k => by
      simp only [bitemporalref04_place.l0]
      rw [if_neg (by omega), if_pos (by omega), Option.bind_some, if_pos (by omega), if_pos (by omega), Int.toNat_natCast, hd, Option.bind_some, if_pos (by simp; omega), List.append_nil]) ?_
    exact Ev.now _
  | cons a rest ih =>
    intro done e
    have hsl : x0.length = done.length + (rest.length + 1) := by rw [e]; simp
    have hg : rd_T38 x0 (done.length : Int) = a := by rw [e, rd38_mid]
    obtain ⟨c, hc, hc2⟩ := cmp_le a p
    unfold plc
    by_cases d : perLt p a
    · rw [if_pos d]
      have hd : x0.drop done.length = a :: rest := by rw [e]; simp
      refine Ev.step (fun k => by
        simp only [bitemporalref04_place.l0]
        rw [if_pos (by omega), if_pos (by omega), hg, hc, Option.bind_some, if_neg (by rw [hc2]; exact fun h => h d), if_pos (by omega), Option.bind_some, if_pos (by omega), Int.toNat_natCast, hd, Option.bind_some, if_pos (by simp; omega)]) ?_
      rw [List.append_assoc, List.singleton_append]
      exact Ev.now _
    · rw [if_neg d]
      have := ih (done ++ [a]) (by rw [e]; simp)
      rw [show (done ++ [a]).length = done.length + 1 by simp, List.append_assoc, List.singleton_append] at this
      exact Ev.step (fun k => by
        simp only [bitemporalref04_place.l0]
        rw [if_pos (by omega), if_pos (by omega), hg, hc, Option.bind_some, if_pos (hc2.2 d), if_pos (by omega), wrap_nat _ (by omega)]) this
theorem placeEv (x0 : List S38) (p : S38) (hl : x0.length < 4294967296) : Ev (fun k => bitemporalref04_place.f k x0 p.f0 p.f1) (plc x0 p) := place_loop x0 p hl x0 [] rfl
theorem places (l : List S48) (lev : Int) (A : List S38) (hA : A.length < 1048576) : ∀ (rest done : List S38) (acc : List S38), A = done ++ rest → Ord acc → acc.length < 1048576 + done.length →
    ∃ acc', Ord acc' ∧ acc'.Perm (acc ++ rest) ∧ ∀ R, Ev (fun k => bitemporalref04_Levels.l0 k l acc' (wrap64 (lev + 1))) R → Ev (fun k => bitemporalref04_Levels.l1 k l acc lev A (done.length : Int)) R := by
  intro rest
  induction rest with
  | nil =>
    intro done acc e ho hn
    have hsl : A.length = done.length := by rw [e]; simp
    exact ⟨acc, ho, by rw [List.append_nil], fun R h => Ev.step (fun k => by simp only [bitemporalref04_Levels.l1]; rw [if_neg (by omega)]) h⟩
  | cons p rest ih =>
    intro done acc e ho hn
    have hsl : A.length = done.length + (rest.length + 1) := by rw [e]; simp
    have hg : rd_T38 A (done.length : Int) = p := by rw [e, rd38_mid]
    have hp := plc_perm acc p
    obtain ⟨acc', h1, h2, h3⟩ := ih (done ++ [p]) (plc acc p) (by rw [e]; simp) (plc_ord p ho) (by rw [hp.length_eq]; simp; omega)
    refine ⟨acc', h1, ?_, fun R h => ?_⟩
    · refine h2.trans ?_
      refine (List.Perm.append_right rest hp).trans ?_
      rw [List.cons_append]
      exact List.perm_middle.symm
    · have h4 := h3 R h
      rw [show (done ++ [p]).length = done.length + 1 by simp] at h4
      refine Ev.step (fun k => by simp only [bitemporalref04_Levels.l1]; rw [if_pos (by omega), if_pos (by omega), hg, wrap_nat _ (by omega)]) ?_
      exact Ev.bind (placeEv acc p (by omega)) h4
theorem cat_succ (n : Nat) (f : Nat → List S38) : cat (n + 1) f = cat n f ++ f n := by unfold cat; rw [List.range_succ, List.flatMap_append]; simp
theorem cat_end (n : Nat) (f : Nat → List S38) (h : ∀ k, n ≤ k → f k = []) : ∀ m, cat (n + m) f = cat n f
  | 0 => rfl
  | m + 1 => by rw [← Nat.add_assoc, cat_succ, cat_end n f h m, h _ (by omega), List.append_nil]
theorem vFrom_le {N : Int} (t : Int) : ∀ (l : List S48) (n : Int), n ≤ N → (∀ s ∈ l, s.f1 ≤ N) → vFrom t n l ≤ N
  | [], n, h, _ => h
  | s :: r, n, h, hv => by
    rw [vFrom_cons]
    refine vFrom_le t r _ ?_ (fun x hx => hv x (List.mem_cons_of_mem _ hx))
    split
    · exact hv s List.mem_cons_self
    · exact h
theorem al_nil {l : List S48} (h : Valid l) {N : Int} (hN : 0 ≤ N) (hv : ∀ s ∈ l, s.f1 ≤ N) {k : Int} (hk : N < k) : al k l = [] := by
  have hs := al_spec k h
  cases e : al k l with
  | nil => rfl
  | cons x r =>
    rw [e] at hs
    have hx := hs.ok x List.mem_cons_self
    have := (hs.told x.f0 hx.1 (by omega)).1 ⟨x, List.mem_cons_self, Int.le_refl _, hx.2.1⟩
    have h2 : vAt l x.f0 ≤ N := vFrom_le x.f0 l 0 hN hv
    omega
theorem al_nil_up {l : List S48} (h : Valid l) {k k' : Int} (hk : k ≤ k') (e : al k l = []) : al k' l = [] := by
  have hs := al_spec k h
  have hs' := al_spec k' h
  cases e' : al k' l with
  | nil => rfl
  | cons x r =>
    rw [e'] at hs'
    rw [e] at hs
    have hx := hs'.ok x List.mem_cons_self
    have h1 := (hs'.told x.f0 hx.1 (by omega)).1 ⟨x, List.mem_cons_self, Int.le_refl _, hx.2.1⟩
    obtain ⟨y, hy, _⟩ := (hs.told x.f0 hx.1 (by omega)).2 (by omega)
    cases hy
theorem rlev_loop {l : List S48} (h : Valid l) (hl : l.length ≤ 24) {N : Nat} (hN : N ≤ 12) (hv : ∀ s ∈ l, s.f1 ≤ N) : ∀ (m j : Nat) (acc : List S38), N = j + m → Ord acc → acc.Perm (cat j (fun k => al ((k : Int) + 1) l)) → acc.length ≤ j * 24 →
    ∃ r, Ord r ∧ r.Perm (cat N (fun k => al ((k : Int) + 1) l)) ∧ Ev (fun k => bitemporalref04_Levels.l0 k l acc ((j : Int) + 1)) r := by
  have stop : ∀ (j : Nat) (acc : List S38), j ≤ N → Ord acc → acc.Perm (cat j (fun k => al ((k : Int) + 1) l)) → al ((j : Int) + 1) l = [] → ∃ r, Ord r ∧ r.Perm (cat N (fun k => al ((k : Int) + 1) l)) ∧ Ev (fun k => bitemporalref04_Levels.l0 k l acc ((j : Int) + 1)) r := by
    intro j acc hj ho hp e
    have := cat_end j (fun k => al ((k : Int) + 1) l) (fun k hk => al_nil_up h (by omega) e) (N - j)
    rw [show j + (N - j) = N by omega] at this
    rw [this]
    refine ⟨acc, ho, hp, Ev.step (fun k => by simp only [bitemporalref04_Levels.l0]; rw [if_pos (by omega)]) ?_⟩
    refine Ev.bind (ralEv h ((j : Int) + 1) (by omega)) ?_
    rw [e]
    exact Ev.congr (fun k => if_pos rfl) (Ev.now acc)
  intro m
  induction m with
  | zero =>
    intro j acc hj ho hp hn
    exact stop j acc (by omega) ho hp (al_nil h (N := (N : Int)) (by omega) hv (by omega))
  | succ m ih =>
    intro j acc hj ho hp hn
    by_cases e : al ((j : Int) + 1) l = []
    · exact stop j acc (by omega) ho hp e
    · have hal : (al ((j : Int) + 1) l).length ≤ 24 := by have := alG_length ((j : Int) + 1) l []; simp at this; unfold al; omega
      obtain ⟨acc', h1, h2, h3⟩ := places l ((j : Int) + 1) (al ((j : Int) + 1) l) (by omega) (al ((j : Int) + 1) l) [] acc rfl ho (by simp; omega)
      obtain ⟨r, h4, h5, h6⟩ := ih (j + 1) acc' (by omega) h1 (by rw [cat_succ]; exact h2.trans (List.Perm.append_right _ hp)) (by rw [h2.length_eq, List.length_append]; omega)
      refine ⟨r, h4, h5, Ev.step (fun k => by simp only [bitemporalref04_Levels.l0]; rw [if_pos (by omega)]) ?_⟩
      refine Ev.bind (ralEv h ((j : Int) + 1) (by omega)) ?_
      have hne : ¬ (((al ((j : Int) + 1) l).length : Int) = 0) := fun x => e (List.eq_nil_of_length_eq_zero (by omega))
      refine Ev.congr (fun k => if_neg hne) ?_
      have hw : wrap64 (((j : Int) + 1) + 1) = ((j + 1 : Nat) : Int) + 1 := by unfold wrap64; omega
      refine h3 r ?_
      rw [hw]
      exact h6
/-- Both Levels are one. -/
theorem levelsEv {l : List S48} (h : Valid l) (hl : l.length ≤ 24) {N : Nat} (hN : N ≤ 12) (hv : ∀ s ∈ l, s.f1 ≤ N) : ∃ r, steps_Levels.f l = some r ∧ Ev (fun k => bitemporalref04_Levels.f k l) r ∧ Ord r ∧ r.Perm (cat N (fun k => al ((k : Int) + 1) l)) := by
  obtain ⟨r, h1, h2, h3⟩ := rlev_loop h hl hN hv N 0 [] (by omega) List.Pairwise.nil (by simp [cat]) (by simp)
  have hp := levels_perm (N := N) (by omega) h hv
  have hlen : (levelsOut l).length < 4611686018427387904 := by
    rw [hp.length_eq]
    have : ∀ n : Nat, (cat n (fun k => al ((k : Int) + 1) l)).length ≤ n * 24 := by
      intro n
      induction n with
      | zero => simp [cat]
      | succ n ih =>
        have hal : (al ((n : Int) + 1) l).length ≤ 24 := by have := alG_length ((n : Int) + 1) l []; simp at this; unfold al; omega
        rw [cat_succ, List.length_append]; omega
    have := this N
    omega
  obtain ⟨q, hq⟩ := slices_SortFunc_51__52.ends (levelsOut l) hlen
  obtain ⟨s1, s2⟩ := slices_SortFunc_51__52.spec hq
  have e : q = r := ord_uniq s2 h1 ((s1.trans hp).trans h2.symm)
  subst e
  refine ⟨q, by unfold steps_Levels.f; rw [if_pos (by omega)]; exact hq, Ev.congr (fun k => by unfold bitemporalref04_Levels.f; rfl) h3, h1, h2⟩
theorem great_loop (l : List S48) (hl : l.length < 4294967296) : ∀ (rest done : List S48) (n : Int), l = done ++ rest → (∀ s ∈ done, s.f1 ≤ n) → ∃ g, Ev (fun k => bitemporalref04_Greatest.l0 k l n (done.length : Int)) g ∧ ∀ s ∈ l, s.f1 ≤ g := by
  intro rest
  induction rest with
  | nil =>
    intro done n e hn
    have hsl : l.length = done.length := by rw [e]; simp
    rw [List.append_nil] at e
    subst e
    exact ⟨n, Ev.step (fun k => by simp only [bitemporalref04_Greatest.l0]; rw [if_neg (by omega)]) (Ev.now n), hn⟩
  | cons s rest ih =>
    intro done n e hn
    have hsl : l.length = done.length + (rest.length + 1) := by rw [e]; simp
    have hg : rd_T48 l (done.length : Int) = s := by rw [e, rd48_mid]
    by_cases c : (done.length : Int) = 0
    · have hd : done = [] := List.eq_nil_of_length_eq_zero (by omega)
      obtain ⟨g, h1, h2⟩ := ih (done ++ [s]) s.f1 (by rw [e]; simp) (fun x hx => by
        rw [hd, List.nil_append] at hx; rw [List.mem_singleton.1 hx]; exact Int.le_refl _)
      rw [show (done ++ [s]).length = done.length + 1 by simp] at h1
      exact ⟨g, Ev.step (fun k => by simp only [bitemporalref04_Greatest.l0]; rw [if_pos (by omega), if_pos c, if_pos (by omega), hg, wrap_nat _ (by omega)]) h1, h2⟩
    · by_cases d : s.f1 > n
      · obtain ⟨g, h1, h2⟩ := ih (done ++ [s]) s.f1 (by rw [e]; simp) (fun x hx => by
          rcases List.mem_append.1 hx with hx | hx
          · have := hn x hx; omega
          · rw [List.mem_singleton.1 hx]; exact Int.le_refl _)
        rw [show (done ++ [s]).length = done.length + 1 by simp] at h1
        exact ⟨g, Ev.step (fun k => by simp only [bitemporalref04_Greatest.l0]; rw [if_pos (by omega), if_neg c, if_pos (by omega), hg, if_pos d, wrap_nat _ (by omega)]) h1, h2⟩
      · obtain ⟨g, h1, h2⟩ := ih (done ++ [s]) n (by rw [e]; simp) (fun x hx => by
          rcases List.mem_append.1 hx with hx | hx
          · exact hn x hx
          · rw [List.mem_singleton.1 hx]; omega)
        rw [show (done ++ [s]).length = done.length + 1 by simp] at h1
        exact ⟨g, Ev.step (fun k => by simp only [bitemporalref04_Greatest.l0]; rw [if_pos (by omega), if_neg c, if_pos (by omega), hg, if_neg d, wrap_nat _ (by omega)]) h1, h2⟩
theorem greatEv (l : List S48) (hl : l.length < 4294967296) : ∃ g, Ev (fun k => bitemporalref04_Greatest.f k l) g ∧ ∀ s ∈ l, s.f1 ≤ g := great_loop l hl l [] 0 rfl (fun s h => by cases h)
end Go.Proofs.Ytapfdhaohgkjeaa.Q
end

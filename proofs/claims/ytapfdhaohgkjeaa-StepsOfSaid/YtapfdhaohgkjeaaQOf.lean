/- steps.Of, plainly: a valid list whose value is the sum of the pieces that hold the instant. -/
import Derived.Test.YtapfdhaohgkjeaaXPx4
import Derived.Test.YtapfdhaohgkjeaaQMath
namespace Go.Proofs.Ytapfdhaohgkjeaa.Q
open Go.RowKit Go.Proofs.YtapfdhaohgkjeaaW.PrintWords Go.Proofs.Ytapfdhaohgkjeaa.XP
set_option linter.unusedVariables false
theorem wrap_nat (i : Nat) (h : i < 4611686018427387904) : wrap64 ((i : Int) + 1) = ((i + 1 : Nat) : Int) := by unfold wrap64; omega
theorem wrap_pred (i : Nat) (h : i < 4611686018427387904) : wrap64 (((i + 1 : Nat) : Int) - 1) = (i : Int) := by unfold wrap64; omega
theorem wrap_wrap (a b : Int) : wrap64 (wrap64 a + b) = wrap64 (a + b) := by unfold wrap64; omega
theorem wrap_zero : wrap64 0 = 0 := by unfold wrap64; omega
theorem rd48_nat (l : List S48) (i : Nat) : rd_T48 l (i : Int) = l.getD i z48 := by unfold rd_T48; rw [Int.toNat_natCast]
theorem rd40_nat (l : List S40) (i : Nat) : rd_T40 l (i : Int) = l.getD i z40 := by unfold rd_T40; rw [Int.toNat_natCast]
theorem getD_mid {α : Type} (a : List α) (x : α) (b : List α) (d : α) : (a ++ x :: b).getD a.length d = x := by simp
theorem put_eq (l : List S48) (p n : Int) (h : l.length < 8796093022208) : steps_put.f l p n = some (putL l p n) := by
  unfold steps_put.f putL
  rcases List.eq_nil_or_concat l with rfl | ⟨r, a, rfl⟩
  · simp
  · rw [List.concat_eq_append] at h ⊢
    have hl : (r ++ [a]).length = r.length + 1 := by simp
    have h' : r.length < 8796093022208 := by omega
    rw [hl, if_pos (by omega), wrap_pred _ (by omega), if_pos (by omega), if_pos (by omega), rd48_nat, getD_mid, List.getLast?_concat]
    simp only
    by_cases c : a.f1 = n
    · rw [if_pos c, if_pos c]
    · rw [if_neg c, if_neg c, if_pos (by omega)]
theorem putL_length (l : List S48) (p n : Int) : (putL l p n).length ≤ l.length + 1 := by
  unfold putL
  split
  · simp
  · split <;> simp
/-- A period is valid. -/
abbrev okP (p : S38) : Prop := 0 ≤ p.f0 ∧ p.f0 < p.f1 ∧ p.f1 ≤ FV
theorem valid_eq (p : S38) : period_Valid.f p.f0 p.f1 = some (decide (okP p)) := by
  unfold period_Valid.f
  by_cases h : p.f0 ≥ 0
  · rw [if_pos h]
    by_cases h2 : p.f0 < p.f1
    · rw [if_pos h2]; congr 1; rw [decide_eq_decide]; exact ⟨fun h3 => ⟨h, h2, h3⟩, fun h3 => h3.2.2⟩
    · rw [if_neg h2]; congr 1; symm; rw [decide_eq_false_iff_not]; exact fun h3 => h2 h3.2.1
  · rw [if_neg h]; congr 1; symm; rw [decide_eq_false_iff_not]; exact fun h3 => h h3.1
/-- The changes of a piece. -/
def chg (c : S40) : List S48 := if okP c.f0 then [⟨c.f0.f0, c.f1⟩, ⟨c.f0.f1, wrap64 (-c.f1)⟩] else []
theorem chg_length (c : S40) : (chg c).length ≤ 2 := by unfold chg; split <;> simp
theorem flat_length : ∀ l : List S40, (l.flatMap chg).length ≤ 2 * l.length
  | [] => by simp
  | c :: r => by
    have := flat_length r
    have := chg_length c
    simp only [List.flatMap_cons, List.length_append, List.length_cons]; omega
theorem chg_range {l : List S40} {s : S48} (h : s ∈ l.flatMap chg) : 0 ≤ s.f0 ∧ s.f0 ≤ FV := by
  obtain ⟨c, _, hc⟩ := List.mem_flatMap.1 h
  unfold chg at hc
  by_cases hp : okP c.f0
  · rw [if_pos hp] at hc
    simp only [List.mem_cons, List.not_mem_nil, or_false] at hc
    rcases hc with rfl | rfl
    · exact ⟨hp.1, by show c.f0.f0 ≤ FV; omega⟩
    · exact ⟨by show 0 ≤ c.f0.f1; omega, hp.2.2⟩
  · rw [if_neg hp] at hc; cases hc
def sumF : List S48 → Int
  | [] => 0
  | s :: r => s.f1 + sumF r
theorem sumF_append : ∀ a b : List S48, sumF (a ++ b) = sumF a + sumF b
  | [], b => by simp [sumF]
  | s :: r, b => by simp only [List.cons_append, sumF, sumF_append r b]; omega
theorem sumF_perm {a b : List S48} (h : a.Perm b) : sumF a = sumF b := by
  induction h with
  | nil => rfl
  | cons x _ ih => simp only [sumF, ih]
  | swap x y l => simp only [sumF]; omega
  | trans _ _ h1 h2 => exact h1.trans h2
/-- The sum of the changes up to p. -/
def upto (S : List S48) (p : Int) : Int := sumF (S.filter (fun s => s.f0 ≤ p))
theorem upto_perm {a b : List S48} (h : a.Perm b) (p : Int) : upto a p = upto b p := sumF_perm (h.filter _)
def Sorted (S : List S48) : Prop := S.Pairwise (fun a b => a.f0 ≤ b.f0)
theorem upto_split {a b : List S48} {p : Int} (ha : ∀ s ∈ a, s.f0 ≤ p) (hb : ∀ s ∈ b, p < s.f0) : upto (a ++ b) p = sumF a := by
  unfold upto
  rw [List.filter_append, List.filter_eq_self.2 (fun s hs => by simpa using ha s hs), List.filter_eq_nil_iff.2 (fun s hs => by have := hb s hs; simp; omega), List.append_nil]
section
variable {S : List S48} (hS : Sorted S) (hlen : S.length < 1099511627776)
include hS hlen
/-- What the loops leave: the steps at these places. -/
structure Fin (S : List S48) (out : List S48) : Prop where
  built : ∃ ps r, Built (fun p => wrap64 (upto S p)) ps out ∧ ps = 0 :: r ∧ (∀ p ∈ ps, p < FV) ∧ ∀ s ∈ S, s.f0 < FV → s.f0 ∈ ps
theorem l23_ends : ∀ (m : Nat) (done rest : List S48) (out : List S48) (ps r : List Int), S = done ++ rest → rest.length ≤ m → Built (fun p => wrap64 (upto S p)) ps out → ps = 0 :: r → (∀ p ∈ ps, p < FV) →
    (∀ s ∈ done, s.f0 ∈ ps) → (∀ s ∈ rest, ∀ p ∈ ps, p < s.f0) → out.length ≤ done.length + 1 →
    ∃ o, Fin S o ∧ Ev (fun k => steps_Of.l2 k S out (wrap64 (sumF done)) (done.length : Int)) o := by
  intro m
  induction m with
  | zero =>
    intro done rest out ps r e hm hb h0 hF hd hr ho
    have : rest = [] := List.eq_nil_of_length_eq_zero (by omega)
    subst this
    rw [List.append_nil] at e
    subst e
    refine ⟨out, ⟨ps, r, hb, h0, hF, fun s hs _ => hd s hs⟩, ?_⟩
    refine Ev.step (fun k => by simp only [steps_Of.l2]; rw [if_neg (by omega)]) ?_
    exact Ev.step (fun k => by simp only [steps_Of.j4]; rw [if_neg (by decide)]) (Ev.now out)
  | succ m ih =>
    intro done rest out ps r e hm hb h0 hF hd hr ho
    cases rest with
    | nil =>
      rw [List.append_nil] at e
      subst e
      refine ⟨out, ⟨ps, r, hb, h0, hF, fun s hs _ => hd s hs⟩, ?_⟩
      refine Ev.step (fun k => by simp only [steps_Of.l2]; rw [if_neg (by omega)]) ?_
      exact Ev.step (fun k => by simp only [steps_Of.j4]; rw [if_neg (by decide)]) (Ev.now out)
    | cons s rest =>
      have hsl : S.length = done.length + (rest.length + 1) := by rw [e]; simp
      have hg : rd_T48 S (done.length : Int) = s := by rw [rd48_nat, e, getD_mid]
      have hge : ∀ x ∈ rest, s.f0 ≤ x.f0 := by
        have := hS; rw [e] at this
        exact (List.pairwise_cons.1 (List.pairwise_append.1 this).2.1).1
      by_cases hf : s.f0 < FV
      · -- one place more
        have key : ∀ (n : Nat) (eqs more : List S48), rest = eqs ++ more → more.length ≤ n → (∀ x ∈ eqs, x.f0 = s.f0) →
            ∃ o, Fin S o ∧ Ev (fun k => steps_Of.l3 k S out (wrap64 (sumF (done ++ s :: eqs))) ((done.length + (eqs.length + 1) : Nat) : Int) s.f0) o := by
          intro n
          induction n with
          | zero =>
            intro eqs more e2 hn heq
            have : more = [] := List.eq_nil_of_length_eq_zero (by omega)
            subst this
            rw [List.append_nil] at e2
            subst e2
            have hsum : wrap64 (upto S s.f0) = wrap64 (sumF (done ++ s :: rest)) := by
              have : upto S s.f0 = sumF (done ++ s :: rest) := by
                have := upto_split (a := done ++ s :: rest) (b := []) (p := s.f0) (fun x hx => by
                  rcases List.mem_append.1 hx with hx | hx
                  · have := hr s List.mem_cons_self _ (hd x hx); omega
                  · rcases List.mem_cons.1 hx with rfl | hx
                    · exact Int.le_refl _
                    · rw [heq x hx]; exact Int.le_refl _) (fun x hx => by cases hx)
                rw [List.append_nil, ← e] at this
                rw [this, e]
              rw [this]
            have hb2 := hb.put (p := s.f0) (fun q hq => hr s List.mem_cons_self q hq)
            simp only [hsum] at hb2
            obtain ⟨o, ho1, ho2⟩ := ih (done ++ s :: rest) [] _ (ps ++ [s.f0]) (r ++ [s.f0]) (by rw [List.append_nil]; exact e) (by simp) hb2 (by rw [h0]; rfl) (fun p hp => by
              rcases List.mem_append.1 hp with hp | hp
              · exact hF p hp
              · rw [List.mem_singleton.1 hp]; exact hf) (fun x hx => by
              rcases List.mem_append.1 hx with hx | hx
              · exact List.mem_append_left _ (hd x hx)
              · rcases List.mem_cons.1 hx with rfl | hx
                · simp
                · rw [heq x hx]; simp) (fun x hx => by cases hx) (by have := putL_length out s.f0 (wrap64 (sumF (done ++ s :: rest))); simp; omega)
            refine ⟨o, ho1, ?_⟩
            refine Ev.step (fun k => by
              simp only [steps_Of.l3]
              rw [if_neg (by omega), put_eq _ _ _ (by omega), Option.bind_some]) ?_
            have el : (((done ++ s :: rest).length : Nat) : Int) = ((done.length + (rest.length + 1) : Nat) : Int) := by simp
            rw [el] at ho2
            exact ho2
          | succ n ihn =>
            intro eqs more e2 hn heq
            cases more with
            | nil => exact (by
                rw [List.append_nil] at e2
                have := ihn eqs [] (by rw [List.append_nil]; exact e2) (by simp) heq
                exact this)
            | cons y more =>
              have hy : rd_T48 S ((done.length + (eqs.length + 1) : Nat) : Int) = y := by
                rw [rd48_nat, e, e2]
                have : done ++ s :: (eqs ++ y :: more) = (done ++ s :: eqs) ++ y :: more := by simp
                rw [this, show done.length + (eqs.length + 1) = (done ++ s :: eqs).length by simp, getD_mid]
              have hlt : ((done.length + (eqs.length + 1) : Nat) : Int) < (S.length : Int) := by rw [hsl, e2]; simp; omega
              by_cases c : y.f0 = s.f0
              · obtain ⟨o, ho1, ho2⟩ := ihn (eqs ++ [y]) more (by rw [e2]; simp) (by simp at hn; omega) (fun x hx => by
                  rcases List.mem_append.1 hx with hx | hx
                  · exact heq x hx
                  · rw [List.mem_singleton.1 hx]; exact c)
                refine ⟨o, ho1, ?_⟩
                refine Ev.step (fun k => by
                  simp only [steps_Of.l3]
                  rw [if_pos hlt, if_pos (by omega), hy, if_pos c, wrap_wrap, wrap_nat _ (by omega)]) ?_
                have es : sumF (done ++ s :: eqs) + y.f1 = sumF (done ++ s :: (eqs ++ [y])) := by
                  rw [show done ++ s :: (eqs ++ [y]) = (done ++ s :: eqs) ++ [y] by simp, sumF_append _ [y]]; simp [sumF]
                rw [es]
                have el : done.length + (eqs.length + 1) + 1 = done.length + ((eqs ++ [y]).length + 1) := by rw [List.length_append, List.length_singleton]; omega
                rw [el]
                exact ho2
              · have hge2 : ∀ x ∈ y :: more, s.f0 < x.f0 := by
                  have h1 : s.f0 ≤ y.f0 := hge y (by rw [e2]; simp)
                  have h2 : s.f0 < y.f0 := by omega
                  intro x hx
                  rcases List.mem_cons.1 hx with rfl | hx
                  · exact h2
                  · have h3 : y.f0 ≤ x.f0 := by
                      have := hS; rw [e, e2] at this
                      have := (List.pairwise_cons.1 (List.pairwise_append.1 this).2.1).2
                      exact (List.pairwise_cons.1 (List.pairwise_append.1 this).2.1).1 x hx
                    omega
                have hsum : wrap64 (upto S s.f0) = wrap64 (sumF (done ++ s :: eqs)) := by
                  have : upto S s.f0 = sumF (done ++ s :: eqs) := by
                    have := upto_split (a := done ++ s :: eqs) (b := y :: more) (p := s.f0) (fun x hx => by
                      rcases List.mem_append.1 hx with hx | hx
                      · have := hr s List.mem_cons_self _ (hd x hx); omega
                      · rcases List.mem_cons.1 hx with rfl | hx
                        · exact Int.le_refl _
                        · rw [heq x hx]; exact Int.le_refl _) hge2
                    rw [show (done ++ s :: eqs) ++ y :: more = S by rw [e, e2]; simp] at this
                    exact this
                  rw [this]
                have hb2 := hb.put (p := s.f0) (fun q hq => hr s List.mem_cons_self q hq)
                simp only [hsum] at hb2
                obtain ⟨o, ho1, ho2⟩ := ih (done ++ s :: eqs) (y :: more) _ (ps ++ [s.f0]) (r ++ [s.f0]) (by rw [e, e2]; simp) (by rw [e2] at hm; simp at hm ⊢; omega) hb2 (by rw [h0]; rfl) (fun p hp => by
                  rcases List.mem_append.1 hp with hp | hp
                  · exact hF p hp
                  · rw [List.mem_singleton.1 hp]; exact hf) (fun x hx => by
                  rcases List.mem_append.1 hx with hx | hx
                  · exact List.mem_append_left _ (hd x hx)
                  · rcases List.mem_cons.1 hx with rfl | hx
                    · simp
                    · rw [heq x hx]; simp) (fun x hx p hp => by
                  rcases List.mem_append.1 hp with hp | hp
                  · exact hr x (by
                      rcases List.mem_cons.1 hx with rfl | hx
                      · rw [e2]; simp
                      · rw [e2]; simp [hx]) p hp
                  · rw [List.mem_singleton.1 hp]; exact hge2 x hx) (by have := putL_length out s.f0 (wrap64 (sumF (done ++ s :: eqs))); simp; omega)
                refine ⟨o, ho1, ?_⟩
                refine Ev.step (fun k => by
                  simp only [steps_Of.l3]
                  rw [if_pos hlt, if_pos (by omega), hy, if_neg c, put_eq _ _ _ (by omega), Option.bind_some]) ?_
                have el : (((done ++ s :: eqs).length : Nat) : Int) = ((done.length + (eqs.length + 1) : Nat) : Int) := by simp
                rw [el] at ho2
                exact ho2
        obtain ⟨o, ho1, ho2⟩ := key rest.length [] rest rfl (Nat.le_refl _) (fun x hx => by cases hx)
        refine ⟨o, ho1, ?_⟩
        have hlt : (done.length : Int) < (S.length : Int) := by omega
        refine Ev.step (fun k => by simp only [steps_Of.l2]; rw [if_pos hlt, if_pos (by omega), hg, decide_eq_true hf]) ?_
        refine Ev.step (fun k => by simp only [steps_Of.j4]; rw [if_pos trivial, if_pos (by omega), if_pos hlt, hg]) ?_
        refine Ev.step (fun k => by
          simp only [steps_Of.l3]
          rw [if_pos hlt, if_pos (by omega), hg, if_pos rfl, wrap_wrap, wrap_nat _ (by omega)]) ?_
        have es : sumF done + s.f1 = sumF (done ++ [s]) := by rw [sumF_append]; simp [sumF]
        rw [es]
        exact ho2
      · refine ⟨out, ⟨ps, r, hb, h0, hF, fun x hx hxF => ?_⟩, ?_⟩
        · rw [e] at hx
          rcases List.mem_append.1 hx with hx | hx
          · exact hd x hx
          · exfalso
            rcases List.mem_cons.1 hx with rfl | hx
            · exact hf hxF
            · have := hge x hx; omega
        · have hlt : (done.length : Int) < (S.length : Int) := by omega
          refine Ev.step (fun k => by simp only [steps_Of.l2]; rw [if_pos hlt, if_pos (by omega), hg, decide_eq_false hf]) ?_
          exact Ev.step (fun k => by simp only [steps_Of.j4]; rw [if_neg (by decide)]) (Ev.now out)
end
end Go.Proofs.Ytapfdhaohgkjeaa.Q

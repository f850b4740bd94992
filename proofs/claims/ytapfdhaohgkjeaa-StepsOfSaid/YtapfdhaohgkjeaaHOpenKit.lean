/- What came in, as data, in the words of the printed contracts. -/
import Derived.Deep.Slices
import Derived.Test.YtapfdhaohgkjeaaWMore
namespace Go.Proofs.Ytapfdhaohgkjeaa.OpenKit
open Go.RowKit Go.ChangeShapes Go.WideShapes Go.Deep Go.Proofs.YtapfdhaohgkjeaaW.PrintWords
section
variable {H : Type} {enc : TypeId × Value → H} {P : Program} {W : World}
/-- Whatever reads as a datum of type t is held as a value of this kind. -/
def Opens (enc : TypeId × Value → H) (P : Program) (W : World) (t : TypeId) {α : Type} (d : Kd α) (ok : α → Prop) : Prop :=
  ∀ (fuel : Nat) (cs : List Value) (x : DataW H × List MemPlace), DataW.trod enc P W 0 (fun _ => true) true fuel t cs = some x → ∃ a, ok a ∧ d.K W a cs
theorem opens_int {t : TypeId} {k : IntKind} (ht : P.underlying t = some (.int k)) : Opens enc P W t (Kd.int k) (fun n => (Lit.int k n).wf = true) := by
  intro fuel cs x h
  obtain ⟨n, rfl, _, hw⟩ := DataW.trod_int ht h
  exact ⟨n, hw, rfl⟩
theorem opens_bool {t : TypeId} (ht : P.underlying t = some .bool) : Opens enc P W t Kd.bool (fun _ => True) := by
  intro fuel cs x h
  obtain ⟨n, rfl, _⟩ := DataW.trod_bool ht h
  exact ⟨n, trivial, rfl⟩
theorem opens_string {t : TypeId} (ht : P.underlying t = some .string) : Opens enc P W t Kd.string (fun s => s.size ≤ maxLen) := by
  intro fuel cs x h
  obtain ⟨n, rfl, _, hs⟩ := DataW.trod_string ht h
  exact ⟨n, hs, rfl⟩
theorem opens_struct2 {t : TypeId} {fs : Array Field} {f0 f1 : Field} {α β : Type} {d0 : Kd α} {d1 : Kd β} {ok0 : α → Prop} {ok1 : β → Prop} (ht : P.underlying t = some (.struct fs)) (hf : fs = #[f0, f1])
    (h0 : Opens enc P W f0.type d0 ok0) (h1 : Opens enc P W f1.type d1 ok1) (o0 : f0.offset = 0) (o1 : f1.offset = d0.sz) (c0 : P.cellsOf f0.type = d0.sz) (c1 : P.cellsOf f1.type = d1.sz) (ct : P.cellsOf t = d0.sz + d1.sz) :
    Opens enc P W t (Kd.pair d0 d1) (fun x => ok0 x.1 ∧ ok1 x.2) := by
  intro fuel cs x h
  subst hf
  obtain ⟨xs, n, _, _, hl, hxs, hx⟩ := DataW.trod_struct ht h
  have hxs : xs.length = 2 := hxs
  have e0 := hx 0 f0 rfl
  have e1 := hx 1 f1 rfl
  rw [List.getElem?_eq_getElem (by omega)] at e0 e1
  rw [o0, List.drop_zero, c0] at e0
  rw [o1, c1] at e1
  obtain ⟨a, ha, ka⟩ := h0 _ _ _ e0
  obtain ⟨b, hb, kb⟩ := h1 _ _ _ e1
  have ec : (cs.drop d0.sz).take d1.sz = cs.drop d0.sz := List.take_of_length_le (by rw [List.length_drop, hl, ct]; omega)
  rw [ec] at kb
  exact ⟨(a, b), ⟨ha, hb⟩, _, _, (List.take_append_drop _ _).symm, ka, kb⟩
theorem Opens.iso {t : TypeId} {α β : Type} {d : Kd α} {ok : α → Prop} (h : Opens enc P W t d ok) (f : β → α) (g : α → β) (hfg : ∀ a, f (g a) = a) {ok' : β → Prop} (hok : ∀ a, ok a → ok' (g a)) : Opens enc P W t (Kd.iso d f) ok' := by
  intro fuel cs x hx
  obtain ⟨a, ha, ka⟩ := h fuel cs x hx
  exact ⟨g a, hok a ha, by show d.K W (f (g a)) cs; rw [hfg]; exact ka⟩
theorem choose_list {α : Type} {Q : Nat → α → Prop} : ∀ n : Nat, (∀ i, i < n → ∃ a, Q i a) → ∃ l : List α, l.length = n ∧ ∀ (i : Nat) (a : α), l[i]? = some a → Q i a
  | 0, _ => ⟨[], rfl, fun i a h => by simp at h⟩
  | n + 1, h => by
    obtain ⟨l, hl, hq⟩ := choose_list n (fun i hi => h i (by omega))
    obtain ⟨a, ha⟩ := h n (by omega)
    refine ⟨l ++ [a], by simp [hl], fun i b hb => ?_⟩
    rcases Nat.lt_or_ge i l.length with hi | hi
    · rw [List.getElem?_append_left hi] at hb; exact hq i b hb
    · have : i = l.length := by have := (List.getElem?_eq_some_iff.1 hb).1; simp at this; omega
      subst this
      have : a = b := by simpa using hb
      subst this
      rw [hl]; exact ha
/-- A slice. -/
theorem opens_row {t e : TypeId} {α : Type} {d : Kd α} {ok : α → Prop} (ht : P.underlying t = some (.slice e)) (hd : Opens enc P W e d ok) (hsz : P.cellsOf e = d.sz) {fuel : Nat} {A : Option Addr} {len cap : Nat} {x : DataW H × List MemPlace}
    (h : DataW.trod enc P W 0 (fun _ => true) true fuel t [.slice A len cap] = some x) : ∃ l : List α, l.length = len ∧ len ≤ cap ∧ cap ≤ maxLen ∧ (∀ a ∈ l, ok a) ∧ Kd.C d W A l.length l := by
  rcases open_slice ht h with ⟨hcs, _⟩ | ⟨a, len', cap', m, n, D, Pl, hcs, hb, hl, hm, hmm, hx, hi⟩
  · simp at hcs
    obtain ⟨rfl, rfl, rfl⟩ := hcs
    exact ⟨[], rfl, Nat.le_refl _, Nat.zero_le _, (fun a ha => by cases ha), Kd.C_nil d W⟩
  · simp at hcs
    obtain ⟨rfl, rfl, rfl⟩ := hcs
    have hlm : len ≤ m := by rw [hmm]; simp; omega
    obtain ⟨l, hll, hq⟩ := choose_list (Q := fun i b => ok b ∧ ∃ c, c.length = d.sz ∧ d.K W b c ∧ ∀ j u, c[j]? = some u → W.cell? (a.add (i * d.sz + j)) = some u) len (fun i hil => by
      obtain ⟨cs', hc, ht'⟩ := hi i (by omega)
      obtain ⟨b, hb', kb⟩ := hd _ _ _ ht'
      obtain ⟨_, hcl, hat⟩ := World.cells?_some hc
      rw [hsz] at hcl
      refine ⟨b, hb', cs', hcl, kb, fun j u hj => ?_⟩
      have hjl : j < d.sz := by have := (List.getElem?_eq_some_iff.1 hj).1; omega
      have := hat j (by rw [hsz]; exact hjl)
      rw [hsz, Go.Deep.add_add] at this
      exact this.trans hj)
    refine ⟨l, hll, hl, hm, fun b hb' => ?_, by rw [hll]; exact ⟨hll, Nat.le_trans hl hm, fun _ => ⟨a, rfl, fun j p hj => (hq j p hj).2⟩⟩⟩
    obtain ⟨i, hi', rfl⟩ := List.getElem_of_mem hb'
    exact (hq i _ (List.getElem?_eq_getElem hi')).1
theorem opens_slice {t e : TypeId} {α : Type} {d : Kd α} {ok : α → Prop} (ht : P.underlying t = some (.slice e)) (hd : Opens enc P W e d ok) (hsz : P.cellsOf e = d.sz) : Opens enc P W t (Kd.slice e d) (fun l => ∀ a ∈ l, ok a) := by
  intro fuel cs x h
  rcases open_slice ht h with ⟨rfl, _⟩ | ⟨a, len', cap', _, _, _, _, rfl, _⟩ <;>
  · obtain ⟨l, hl, hc, _, hok, hC⟩ := opens_row ht hd hsz h
    exact ⟨l, hok, _, _, by rw [hl], by rw [hl]; exact hc, hC⟩
end
end Go.Proofs.Ytapfdhaohgkjeaa.OpenKit

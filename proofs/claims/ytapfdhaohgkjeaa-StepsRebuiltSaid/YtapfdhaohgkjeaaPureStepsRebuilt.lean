/- The law StepsRebuilt, plainly. -/
import Derived.Test.YtapfdhaohgkjeaaXPx17
import Derived.Test.YtapfdhaohgkjeaaQAll
import Derived.Test.YtapfdhaohgkjeaaHAll
namespace Go.Proofs.Ytapfdhaohgkjeaa.Q
open Go.RowKit Go.Proofs.YtapfdhaohgkjeaaW.PrintWords Go.Proofs.YtapfdhaohgkjeaaW.PrintMore Go.Proofs.Ytapfdhaohgkjeaa.XP
set_option linter.unusedVariables false
def pOne (p : S38) : S40 := ⟨p, 1⟩
theorem total_perm {a b : List S40} (h : a.Perm b) (t : Int) : total a t = total b t := by
  induction h with
  | nil => rfl
  | cons x _ ih => simp only [total, ih]
  | swap x y l => simp only [total]; omega
  | trans _ _ h1 h2 => exact h1.trans h2
theorem total_one {q : Int} (hq : q ≤ FV) (t : Int) : ∀ A : List S38, A.Pairwise (fun x y => x.f1 < y.f0) → (∀ x ∈ A, 0 ≤ x.f0 ∧ x.f0 < x.f1 ∧ x.f1 ≤ q) → ((∃ x ∈ A, x.f0 ≤ t ∧ t < x.f1) → total (A.map pOne) t = 1) ∧ ((¬ ∃ x ∈ A, x.f0 ≤ t ∧ t < x.f1) → total (A.map pOne) t = 0)
  | [], _, _ => ⟨(fun ⟨x, h, _⟩ => by cases h), fun _ => rfl⟩
  | y :: r, hp, ho => by
    have h2 := List.pairwise_cons.1 hp
    obtain ⟨i1, i2⟩ := total_one hq t r h2.2 (fun x hx => ho x (List.mem_cons_of_mem _ hx))
    have hy := ho y List.mem_cons_self
    have e : total ((y :: r).map pOne) t = (if okP y ∧ y.f0 ≤ t ∧ t < y.f1 then 1 else 0) + total (r.map pOne) t := rfl
    have hok : okP y := ⟨hy.1, hy.2.1, by omega⟩
    rw [e]
    by_cases c : y.f0 ≤ t ∧ t < y.f1
    · rw [if_pos ⟨hok, c⟩, i2 (by rintro ⟨x, hx, h3, h4⟩; have := h2.1 x hx; omega)]
      exact ⟨fun _ => rfl, fun h => absurd ⟨y, List.mem_cons_self, c⟩ h⟩
    · rw [if_neg (fun h => c h.2)]
      refine ⟨fun ⟨x, hx, h3⟩ => ?_, fun h => ?_⟩
      · rcases List.mem_cons.1 hx with rfl | hx
        · exact absurd h3 c
        · rw [i1 ⟨x, hx, h3⟩]; rfl
      · rw [i2 (fun ⟨x, hx, h3⟩ => h ⟨x, List.mem_cons_of_mem _ hx, h3⟩)]; rfl
theorem total_cat {l : List S48} (h : Valid l) (t : Int) (h0 : 0 ≤ t) (h1 : t < FV) (hp : 0 ≤ vAt l t) : ∀ n : Nat, total ((cat n (fun k => al ((k : Int) + 1) l)).map pOne) t = if (n : Int) ≤ vAt l t then (n : Int) else vAt l t
  | 0 => by rw [if_pos (by simpa using hp)]; rfl
  | n + 1 => by
    have ih := total_cat h t h0 h1 hp n
    have hs := al_spec ((n : Int) + 1) h
    obtain ⟨i1, i2⟩ := total_one (Int.le_refl FV) t _ hs.apart hs.ok
    rw [cat_succ, List.map_append, total_append, ih]
    have ht := hs.told t h0 h1
    by_cases c : (n : Int) + 1 ≤ vAt l t
    · rw [i1 (ht.2 c), if_pos (by omega), if_pos (by omega)]; omega
    · rw [i2 (fun x => c (ht.1 x)), if_neg (show ¬ ((n + 1 : Nat) : Int) ≤ vAt l t by omega)]
      by_cases d : (n : Int) ≤ vAt l t
      · rw [if_pos d]; omega
      · rw [if_neg d]; omega
theorem cat_length (l : List S48) (hl : l.length ≤ 24) : ∀ n : Nat, (cat n (fun k => al ((k : Int) + 1) l)).length ≤ n * 24
  | 0 => by simp [cat]
  | n + 1 => by
    have ih := cat_length l hl n
    have hal : (al ((n : Int) + 1) l).length ≤ 24 := by have := alG_length ((n : Int) + 1) l []; simp at this; unfold al; omega
    rw [cat_succ, List.length_append]; omega
theorem rebuilt_loop (l : List S48) (L : List S38) (hl : L.length ≤ 288) (hO : Ord L) : ∀ (rest done : List S38), L = done ++ rest →
    ∀ R, Ev (fun k => (steps_Of.f k (L.map pOne)).bind fun t473 => ((bitemporalref04_Same.f k t473 l).bind fun t476 => (if t476 = true then ((bitemporallaw04_awake.f k).bind fun t477 => (some t477)) else (some false)))) R → Ev (fun k => bitemporallaw04_StepsRebuilt.l0 k l L (done.map pOne) (done.length : Int)) R := by
  intro rest
  induction rest with
  | nil =>
    intro done e R h
    have hsl : L.length = done.length := by rw [e]; simp
    rw [List.append_nil] at e
    subst e
    exact Ev.step (fun k => by simp only [bitemporallaw04_StepsRebuilt.l0]; rw [if_neg (by omega)]) h
  | cons p rest ih =>
    intro done e R h
    have hsl : L.length = done.length + (rest.length + 1) := by rw [e]; simp
    have hg : rd_T38 L (done.length : Int) = p := by rw [e, rd38_mid]
    have := ih (done ++ [p]) (by rw [e]; simp) R h
    rw [show (done ++ [p]).length = done.length + 1 by simp, List.map_append] at this
    by_cases c : (done.length : Int) > 0
    · rcases List.eq_nil_or_concat done with rfl | ⟨d, z, rfl⟩
      · simp at c
      · rw [List.concat_eq_append] at *
        have hd : (d ++ [z]).length = d.length + 1 := by simp
        have hz : rd_T38 L (d.length : Int) = z := by rw [e, List.append_assoc, List.singleton_append, rd38_mid]
        have hw : wrap64 (((d ++ [z]).length : Int) - 1) = (d.length : Int) := by rw [hd]; exact wrap_pred _ (by omega)
        have hlt : ¬ perLt p z := (List.pairwise_append.1 (e ▸ hO : Ord ((d ++ [z]) ++ p :: rest))).2.2 z (by simp) p List.mem_cons_self
        obtain ⟨v, hv, hv2⟩ := cmp_le z p
        refine Ev.step (fun k => ?_) this
        simp only [bitemporallaw04_StepsRebuilt.l0]
        rw [if_pos (by omega), if_pos c, hw, if_pos (by omega), if_pos (by omega), if_pos (by omega), hz, hg, hv, Option.bind_some, if_neg (by have := hv2.2 hlt; omega), if_pos (by rw [List.length_map]; omega), wrap_nat _ (by omega)]
        rfl
    · refine Ev.step (fun k => ?_) this
      simp only [bitemporallaw04_StepsRebuilt.l0]
      rw [if_pos (by omega), if_neg c, if_pos (by omega), if_pos (by rw [List.length_map]; omega), hg, wrap_nat _ (by omega)]
      rfl
end Go.Proofs.Ytapfdhaohgkjeaa.Q
namespace Go.Proofs.Ytapfdhaohgkjeaa.Pure
open Go.RowKit Go.Proofs.YtapfdhaohgkjeaaW.PrintWords Go.Proofs.YtapfdhaohgkjeaaW.PrintMore Go.Proofs.Ytapfdhaohgkjeaa.XP Go.Proofs.Ytapfdhaohgkjeaa.Q
set_option linter.unusedVariables false
theorem StepsRebuilt (l : List S48) (ok : ∀ x ∈ l, ok48 x) (hl : l.length ≤ 9223372036854775807) : ∃ k, bitemporallaw04_StepsRebuilt.f k l = some true := by
  refine Ev.rounds ?_
  have idle : Ev (fun k => bitemporallaw04_StepsRebuilt.j0 k l true) true := Ev.step (fun k => by simp only [bitemporallaw04_StepsRebuilt.j0]; rw [if_pos trivial]) awakeEv
  obtain ⟨f, h1, h2⟩ := fineEv l
  refine Ev.congr (fun k => by unfold bitemporallaw04_StepsRebuilt.f; rfl) (Ev.bind h1 ?_)
  cases f with
  | false => exact Ev.congr (fun k => if_neg (by decide)) idle
  | true =>
    obtain ⟨hn, hv⟩ := h2.1 rfl
    refine Ev.congr (fun k => if_pos rfl) ?_
    obtain ⟨g, h3, h4⟩ := greatEv l (by omega)
    refine Ev.bind h3 ?_
    by_cases c : g > 12
    · exact Ev.congr (fun k => if_pos c) idle
    · refine Ev.congr (fun k => if_neg c) ?_
      obtain ⟨o, _, p2, p3, p4⟩ := bothClip l hv (by omega)
      obtain ⟨r, s1, s2⟩ := sameEv o l (by have := p3.length; omega)
      refine Ev.bind p2 (Ev.bind s1 ?_)
      cases r with
      | false => exact idle
      | true =>
        have e : o = l := s2.1 rfl
        subst e
        have hpos : ∀ t, 0 ≤ t → t < FV → 0 ≤ vAt o t := fun t a b => by
          have := p4 t a b
          unfold mx at this
          split at this <;> omega
        have hle : ∀ t, vAt o t ≤ 12 := fun t => vFrom_le t o 0 (by decide) (fun s hs => by have := h4 s hs; omega)
        obtain ⟨L, h5, _, h7, h8⟩ := levelsEv hv hn (N := 12) (Nat.le_refl _) (fun s hs => by have := h4 s hs; omega)
        have hL : L.length ≤ 288 := by rw [h8.length_eq]; exact cat_length o hn 12
        refine Ev.step (fun k => by simp only [bitemporallaw04_StepsRebuilt.j0]; rw [if_neg (by decide), h5, Option.bind_some]) ?_
        refine rebuilt_loop o L hL h7 L [] rfl true ?_
        obtain ⟨q, q1, q2, q3⟩ := of_ends (L.map pOne) (by rw [List.length_map]; omega)
        have e2 : q = o := q2.uniq hv (fun t a b => by
          rw [q3 t a b, total_perm (h8.map pOne), total_cat hv t a b (hpos t a b) 12]
          have := hle t
          have := hpos t a b
          split <;> (unfold wrap64; omega))
        refine Ev.bind q1 (Ev.bind (sameTrue (by have := q2.length; omega) e2) ?_)
        exact Ev.congr (fun k => if_pos rfl) awakeEv
end Go.Proofs.Ytapfdhaohgkjeaa.Pure

/- The reference's sorted places, plainly: Insert, Same, and the reference's Of. -/
import Derived.Test.YtapfdhaohgkjeaaXPx11
import Derived.Test.YtapfdhaohgkjeaaQOfb
namespace Go.Proofs.Ytapfdhaohgkjeaa.Q
open Go.RowKit Go.Proofs.YtapfdhaohgkjeaaW.PrintWords Go.Proofs.Ytapfdhaohgkjeaa.XP
set_option linter.unusedVariables false
theorem rd_nat (l : List Int) (i : Nat) : rd l (i : Int) = l.getD i 0 := by unfold rd; rw [Int.toNat_natCast]
theorem rd_mid (a : List Int) (x : Int) (b : List Int) : rd (a ++ x :: b) (a.length : Int) = x := by rw [rd_nat, getD_mid]
theorem rd48_mid (a : List S48) (x : S48) (b : List S48) : rd_T48 (a ++ x :: b) (a.length : Int) = x := by rw [rd48_nat, getD_mid]
theorem rd40_mid (a : List S40) (x : S40) (b : List S40) : rd_T40 (a ++ x :: b) (a.length : Int) = x := by rw [rd40_nat, getD_mid]
/-- A place among ascending places. -/
def ins : List Int → Int → List Int
  | [], x => [x]
  | a :: r, x => if a < x then a :: ins r x else if a > x then x :: a :: r else a :: r
theorem ins_mem : ∀ (l : List Int) (x y : Int), y ∈ ins l x ↔ y = x ∨ y ∈ l
  | [], x, y => by simp [ins]
  | a :: r, x, y => by
    unfold ins
    by_cases c : a < x
    · rw [if_pos c, List.mem_cons, ins_mem r x y, List.mem_cons]
      constructor
      · rintro (h | h | h)
        · exact Or.inr (Or.inl h)
        · exact Or.inl h
        · exact Or.inr (Or.inr h)
      · rintro (h | h | h)
        · exact Or.inr (Or.inl h)
        · exact Or.inl h
        · exact Or.inr (Or.inr h)
    · rw [if_neg c]
      by_cases d : a > x
      · rw [if_pos d, List.mem_cons]
      · rw [if_neg d]
        have : a = x := by omega
        subst this
        simp
theorem ins_length : ∀ (l : List Int) (x : Int), (ins l x).length ≤ l.length + 1
  | [], x => by simp [ins]
  | a :: r, x => by
    have := ins_length r x
    unfold ins
    split
    · simp only [List.length_cons]; omega
    · split <;> simp
abbrev Up (l : List Int) : Prop := l.Pairwise (fun a b => a < b)
theorem ins_up : ∀ (l : List Int) (x : Int), Up l → Up (ins l x)
  | [], x, _ => by simp [ins]
  | a :: r, x, h => by
    have hr := List.pairwise_cons.1 h
    unfold ins
    by_cases c : a < x
    · rw [if_pos c]
      refine List.pairwise_cons.2 ⟨fun y hy => ?_, ins_up r x hr.2⟩
      rcases (ins_mem r x y).1 hy with rfl | hy
      · exact c
      · exact hr.1 y hy
    · rw [if_neg c]
      by_cases d : a > x
      · rw [if_pos d]
        refine List.pairwise_cons.2 ⟨fun y hy => ?_, h⟩
        rcases List.mem_cons.1 hy with rfl | hy
        · exact d
        · have := hr.1 y hy; omega
      · rw [if_neg d]; exact h
theorem ins_zero {r : List Int} {x : Int} (h : 0 ≤ x) : ∃ r', ins (0 :: r) x = 0 :: r' := by
  unfold ins
  by_cases c : 0 < x
  · rw [if_pos c]; exact ⟨_, rfl⟩
  · rw [if_neg c, if_neg (by omega)]; exact ⟨_, rfl⟩
theorem insCopy (x0 : List Int) (hl : x0.length < 1099511627776) : ∀ (rest done acc : List Int), x0 = done ++ rest → acc.length ≤ done.length + 1 → Ev (fun k => bitemporalref03_Insert.l1 k x0 acc (done.length : Int)) (acc ++ rest) := by
  intro rest
  induction rest with
  | nil =>
    intro done acc e ha
    rw [List.append_nil]
    refine Ev.step (fun k => by simp only [bitemporalref03_Insert.l1]; rw [if_neg (by rw [e]; simp)]) (Ev.now acc)
  | cons y rest ih =>
    intro done acc e ha
    have hsl : x0.length = done.length + (rest.length + 1) := by rw [e]; simp
    have := ih (done ++ [y]) (acc ++ [y]) (by rw [e]; simp) (by simp; omega)
    rw [show (done ++ [y]).length = done.length + 1 by simp, List.append_assoc, List.singleton_append] at this
    refine Ev.step (fun k => by simp only [bitemporalref03_Insert.l1]; rw [if_pos (by omega), if_pos (by omega), if_pos (by omega), e, rd_mid, ← e, wrap_nat _ (by omega)]) this
theorem insLoop (x0 : List Int) (x : Int) (hl : x0.length < 1099511627776) : ∀ (rest done : List Int), x0 = done ++ rest → Ev (fun k => bitemporalref03_Insert.l0 k x0 x done (done.length : Int)) (done ++ ins rest x) := by
  intro rest
  induction rest with
  | nil =>
    intro done e
    have hsl : x0.length = done.length := by rw [e]; simp
    refine Ev.step (fun k => by simp only [bitemporalref03_Insert.l0]; rw [if_neg (by omega)]) ?_
    refine Ev.step (fun k => by simp only [bitemporalref03_Insert.j1]; rw [if_pos (by omega)]) ?_
    refine Ev.step (fun k => by simp only [bitemporalref03_Insert.j2]; rw [if_pos trivial, if_pos (by omega)]) ?_
    refine Ev.step (fun k => by simp only [bitemporalref03_Insert.j3]; rfl) ?_
    have := insCopy x0 hl [] done (done ++ [x]) e (by simp)
    rw [List.append_nil] at this
    exact this
  | cons y rest ih =>
    intro done e
    have hsl : x0.length = done.length + (rest.length + 1) := by rw [e]; simp
    have hy : rd x0 (done.length : Int) = y := by rw [e, rd_mid]
    unfold ins
    by_cases c : y < x
    · rw [if_pos c]
      have := ih (done ++ [y]) (by rw [e]; simp)
      rw [show (done ++ [y]).length = done.length + 1 by simp, List.append_assoc, List.singleton_append] at this
      exact Ev.step (fun k => by simp only [bitemporalref03_Insert.l0]; rw [if_pos (by omega), if_pos (by omega), hy, if_pos c, if_pos (by omega), wrap_nat _ (by omega)]) this
    · rw [if_neg c]
      refine Ev.step (fun k => by simp only [bitemporalref03_Insert.l0]; rw [if_pos (by omega), if_pos (by omega), hy, if_neg c]) ?_
      by_cases d : y > x
      · rw [if_pos d]
        refine Ev.step (fun k => by simp only [bitemporalref03_Insert.j1]; rw [if_neg (by omega), if_pos (by omega), if_pos (by omega), hy, decide_eq_true d]) ?_
        refine Ev.step (fun k => by simp only [bitemporalref03_Insert.j2]; rw [if_pos trivial, if_pos (by omega)]) ?_
        refine Ev.step (fun k => by simp only [bitemporalref03_Insert.j3]; rfl) ?_
        have := insCopy x0 hl (y :: rest) done (done ++ [x]) e (by simp)
        rw [List.append_assoc, List.singleton_append] at this
        exact this
      · rw [if_neg d]
        refine Ev.step (fun k => by simp only [bitemporalref03_Insert.j1]; rw [if_neg (by omega), if_pos (by omega), if_pos (by omega), hy, decide_eq_false d]) ?_
        refine Ev.step (fun k => by simp only [bitemporalref03_Insert.j2]; rw [if_neg (by decide)]) ?_
        refine Ev.step (fun k => by simp only [bitemporalref03_Insert.j3]; rfl) ?_
        exact insCopy x0 hl (y :: rest) done done e (by omega)
theorem insEv (x0 : List Int) (x : Int) (hl : x0.length < 1099511627776) : Ev (fun k => bitemporalref03_Insert.f k x0 x) (ins x0 x) := insLoop x0 x hl x0 [] rfl
theorem rput_eq (l : List S48) (p n : Int) (h : l.length < 8796093022208) : bitemporalref04_put.f l p n = some (putL l p n) := put_eq l p n h
theorem rvalid_eq (p : S38) : bitemporalref01_Valid.f p.f0 p.f1 = some (decide (okP p)) := valid_eq p
/-- A period holds t. -/
abbrev holds (p : S38) (t : Int) : Prop := okP p ∧ p.f0 ≤ t ∧ t < p.f1
theorem rcontains_eq (p : S38) (t : Int) : bitemporalref01_Contains.f p.f0 p.f1 t = some (decide (holds p t)) := by
  unfold bitemporalref01_Contains.f
  rw [rvalid_eq, Option.bind_some]
  by_cases h : okP p
  · rw [decide_eq_true h, if_pos rfl]
    by_cases h1 : p.f0 ≤ t
    · rw [if_pos h1]; congr 1; rw [decide_eq_decide]; exact ⟨fun h2 => ⟨h, h1, h2⟩, fun h2 => h2.2.2⟩
    · rw [if_neg h1]; congr 1; symm; rw [decide_eq_false_iff_not]; exact fun h2 => h1 h2.2.1
  · rw [decide_eq_false h, if_neg (by decide)]; congr 1; symm; rw [decide_eq_false_iff_not]; exact fun h2 => h h2.1
theorem same_loop (a b : List S48) (hl : a.length < 4611686018427387904) (hab : a.length = b.length) : ∀ (ra rb da db : List S48), a = da ++ ra → b = db ++ rb → da.length = db.length →
    ∃ r, Ev (fun k => bitemporalref04_Same.l0 k a b (da.length : Int)) r ∧ (r = true ↔ ra = rb) := by
  intro ra
  induction ra with
  | nil =>
    intro rb da db ea eb hd
    have h1 : a.length = da.length := by rw [ea]; simp
    have h2 : b.length = db.length + rb.length := by rw [eb]; simp
    have : rb = [] := List.eq_nil_of_length_eq_zero (by omega)
    subst this
    exact ⟨true, Ev.step (fun k => by simp only [bitemporalref04_Same.l0]; rw [if_neg (by omega)]) (Ev.now true), by simp⟩
  | cons x ra ih =>
    intro rb da db ea eb hd
    have h1 : a.length = da.length + (ra.length + 1) := by rw [ea]; simp
    have h2 : b.length = db.length + rb.length := by rw [eb]; simp
    cases rb with
    | nil => simp at h2; omega
    | cons y rb =>
      have hx : rd_T48 a (da.length : Int) = x := by rw [ea, rd48_mid]
      have hy : rd_T48 b (da.length : Int) = y := by rw [hd, eb, rd48_mid]
      by_cases c : x = y
      · subst c
        obtain ⟨r, h3, h4⟩ := ih rb (da ++ [x]) (db ++ [x]) (by rw [ea]; simp) (by rw [eb]; simp) (by simp; omega)
        rw [show (da ++ [x]).length = da.length + 1 by simp] at h3
        refine ⟨r, Ev.step (fun k => by simp only [bitemporalref04_Same.l0]; rw [if_pos (by omega), if_pos (by omega), if_pos (by omega), hx, hy, if_neg (by simp), wrap_nat _ (by omega)]) h3, by rw [h4]; simp⟩
      · have : ((!(x.f0 == y.f0)) || (!(x.f1 == y.f1))) = true := by
          cases x; cases y; simp at c ⊢
          by_cases h : ‹Int› = ‹Int› <;> grind
        refine ⟨false, Ev.step (fun k => by simp only [bitemporalref04_Same.l0]; rw [if_pos (by omega), if_pos (by omega), if_pos (by omega), hx, hy, if_pos this]) (Ev.now false), by simp [c]⟩
theorem sameEv (a b : List S48) (hl : a.length < 4611686018427387904) : ∃ r, Ev (fun k => bitemporalref04_Same.f k a b) r ∧ (r = true ↔ a = b) := by
  by_cases h : a.length = b.length
  · obtain ⟨r, h1, h2⟩ := same_loop a b hl h a b [] [] rfl rfl rfl
    exact ⟨r, Ev.congr (fun k => by unfold bitemporalref04_Same.f; rw [if_pos (by omega)]; rfl) h1, h2⟩
  · refine ⟨false, Ev.congr (fun k => by unfold bitemporalref04_Same.f; rw [if_neg (by omega)]) (Ev.now false), ?_⟩
    constructor
    · intro h; cases h
    · intro e; exact absurd (congrArg List.length e) h
theorem sameTrue {a b : List S48} (hl : a.length < 4611686018427387904) (e : a = b) : Ev (fun k => bitemporalref04_Same.f k a b) true := by
  obtain ⟨r, h1, h2⟩ := sameEv a b hl
  rw [h2.2 e] at h1; exact h1
end Go.Proofs.Ytapfdhaohgkjeaa.Q

/- A row of the call's own behind slices.SortFunc: the shelf's worlds in the words of the printed contracts. -/
import Derived.Shelf.SlSortCmp.NoneTotal
import Derived.Test.YtapfdhaohgkjeaaWMore
import Derived.Test.YtapfdhaohgkjeaaWKept
namespace Go.Proofs.Ytapfdhaohgkjeaa.SortKit
open Go.Shelf Go.RowKit Go.Lib Go.Sort Go.Proofs.YtapfdhaohgkjeaaW.PrintWords

theorem put_take (F cur : Array Value) (hF : F.size ≤ cur.size) : (putCells id 0 F cur).toList.take F.size = F.toList := by
  apply List.ext_getElem
  · simp [putCells]; omega
  · intro i h1 h2
    have hi : i < F.size := by simpa using h2
    simp [putCells, hi]

theorem put_size (F cur : Array Value) : (putCells id 0 F cur).size = cur.size := by simp [putCells]

theorem world_os (w : World) (m g : Nat) (F : Array Value) (os : Array Obj) : (grow (putRow id (Sort.ahead w m) g 0 F) os).os = w.os := rfl
theorem world_size (w : World) (m g : Nat) (F : Array Value) (os : Array Obj) : w.heap.size ≤ (grow (putRow id (Sort.ahead w m) g 0 F) os).heap.size := by
  simp [putRow, mapBlock, Sort.ahead]
theorem world_block (w : World) (m g : Nat) (F : Array Value) (os : Array Obj) {i : Nat} (hi : i < w.heap.size) (hg : i ≠ g) : (grow (putRow id (Sort.ahead w m) g 0 F) os).heap[i]? = w.heap[i]? := by
  rw [heap_grow_old _ _ (by simpa [putRow, mapBlock, Sort.ahead] using hi)]
  show (w.heap.modify g (onCells (putCells id 0 F)))[i]? = w.heap[i]?
  rw [Array.getElem?_modify, if_neg (Ne.symm hg)]
theorem world_row (w : World) (m g e : Nat) (cur F : Array Value) (os : Array Obj) (hh : w.heap[g]? = some (.cells cur e (0, 0))) :
    (grow (putRow id (Sort.ahead w m) g 0 F) os).heap[g]? = some (.cells (putCells id 0 F cur) e (0, 0)) := by
  have hl : g < w.heap.size := (Array.getElem?_eq_some_iff.1 hh).1
  rw [heap_grow_old _ _ (by simpa [putRow, mapBlock, Sort.ahead] using hl)]
  show (w.heap.modify g (onCells (putCells id 0 F)))[g]? = _
  rw [Array.getElem?_modify, if_pos rfl, hh]
  rfl

variable {α : Type} [Inhabited α]

theorem reps_flat (enc : α → List Value) (k : Nat) (hk : ∀ x, (enc x).length = k) (d : Array α) :
    Reps (fun x c => c = enc x) k d.toList (flatK enc k d).toList := by
  refine ⟨by simp, fun j p hj => ?_⟩
  have hjl : j < d.size := by have := (List.getElem?_eq_some_iff.1 hj).1; simpa using this
  have hd : d[j]! = p := by
    rw [getElem!_pos d j hjl]
    have := (List.getElem?_eq_some_iff.1 hj).2
    simpa using this
  have hlen : j * k + k ≤ d.size * k := by rw [← Nat.succ_mul]; exact Nat.mul_le_mul_right _ hjl
  apply List.ext_getElem
  · simp [hk]; omega
  · intro i h1 h2
    have hi : i < k := by rw [hk] at h2; exact h2
    have hkp : 0 < k := by omega
    have hb : j * k + i < d.size * k := by omega
    have hg := get_flatK enc k d (j * k + i) hb
    rw [getElem!_pos (flatK enc k d) (j * k + i) (by simpa using hb)] at hg
    have e1 : (j * k + i) / k = j := by rw [Nat.add_comm, Nat.add_mul_div_right _ _ hkp, Nat.div_eq_of_lt hi, Nat.zero_add]
    have e2 : (j * k + i) % k = i := by rw [Nat.add_comm, Nat.add_mul_mod_self_right, Nat.mod_eq_of_lt hi]
    rw [e1, e2, hd, getElem!_pos (enc p) i h2] at hg
    simpa using hg

theorem flat_of_reps (enc : α → List Value) (k : Nat) (hk : ∀ x, (enc x).length = k) (ps : List α) (cs : List Value) (h : Reps (fun x c => c = enc x) k ps cs) :
    cs = (flatK enc k ps.toArray).toList := by
  have h2 := reps_flat enc k hk ps.toArray
  apply List.ext_getElem
  · rw [h.1]; simp
  · intro t h1 h3
    have ht : t < ps.length * k := by rw [h.1] at h1; exact h1
    have hkp : 0 < k := by rcases Nat.eq_zero_or_pos k with e | e
                           · subst e; simp at ht
                           · exact e
    have hj : t / k < ps.length := (Nat.div_lt_iff_lt_mul hkp).2 ht
    have e := Nat.div_add_mod t k
    have hm := Nat.mod_lt t hkp
    have hp : ps[t / k]? = some ps[t / k] := List.getElem?_eq_getElem hj
    have a := h.2 (t / k) _ hp
    have b := h2.2 (t / k) ps[t / k] (by rw [show ps.toArray.toList = ps from rfl]; exact hp)
    have ee : t / k * k + t % k = t := by rw [Nat.mul_comm]; exact e
    have ga : ((cs.drop (t / k * k)).take k)[t % k]? = cs[t]? := by
      rw [List.getElem?_take_of_lt hm, List.getElem?_drop, ee]
    have gb : (((flatK enc k ps.toArray).toList.drop (t / k * k)).take k)[t % k]? = (flatK enc k ps.toArray).toList[t]? := by
      rw [List.getElem?_take_of_lt hm, List.getElem?_drop, ee]
    rw [a] at ga
    rw [b] at gb
    have := ga.symm.trans gb
    rw [List.getElem?_eq_getElem h1, List.getElem?_eq_getElem h3] at this
    exact Option.some.inj this

/-- The row holds, in the sort's own words. -/
theorem holds_of (enc : α → List Value) (k : Nat) {w : World} {g e : Nat} {cur : Array Value} {d : Array α} (hh : w.heap[g]? = some (.cells cur e (0, 0)))
    (hc : cur.toList.take (d.size * k) = (flatK enc k d).toList) : HoldsK enc k w g 0 d := by
  intro j hj
  have hj' : j < d.size * k := by simpa using hj
  rw [Nat.zero_add]
  refine ⟨?_, by simp [World.frozen?, hh]⟩
  rw [cell_of_row w g j cur e (0, 0) hh]
  have := congrArg (fun l => l[j]?) hc
  simp only [List.getElem?_take_of_lt hj'] at this
  rw [Array.getElem?_toList] at this
  rw [this, Array.getElem?_toList, getElem!_pos (flatK enc k d) j hj, Array.getElem?_eq_getElem hj]
  rfl

/-- **slices.SortFunc on a row of the call's own whose elements' cells are told by the element alone.** -/
theorem sort_flat {P : Program} {ρ : Ren} (L : SlLaysF0.n6 P ρ) {β : Type} (d : Kd β) (e : Nat) (val : α → β) (encβ : β → List Value)
    (hM : ∀ w base ok x cs, d.M w base ok x cs ↔ cs = encβ x)
    (aE : ∀ w, (isAgg (ρ.t 24)).run P w = .ok true w) (zE : ∀ w, (Go.sizeOf (ρ.t 24)).run P w = .ok d.sz w)
    (cf : α → α → Int) (hO : SWO (ltOf cf)) (g : Nat) (eg : ∀ args w, (callFunc g args).run P w = .ok (.enter g args) w)
    (hcmp : ∀ (x y : α) (W : World), Calls P g #[.agg (encβ (val x)).toArray, .agg (encβ (val y)).toArray] W fun e w' => e = .returned (.int .i64 (cf x y)) ∧ ∃ q os', w' = grow (W.drewN q) os')
    (P0 : Nat → Prop) (u : Value) (l : List α) (w0 w : World) (hsz : l.length < 4611686018427387904) (hB : Below w0.heap.size w0 w)
    (ho : Kd.R d e w w0.heap.size P0 u (l.map val)) :
    Calls P (ρ.f 6) #[u, .func (.func g) #[] #[]] w fun e_ w' => e_ = .returned (.tuple #[]) ∧ Kd.R d e w' w0.heap.size (fun k_ => (P0 k_ ∨ w.heap.size ≤ k_)) u ((pdq (ltOf cf) l.toArray 0 l.length (Lib.bitLen l.length) true true).toList.map val) ∧ Below w0.heap.size w0 w' ∧ Kept w w' (fun k_ => P0 k_) := by
  obtain ⟨h0, inner, hown, hreps⟩ := ho
  rcases hown.2 with ⟨rfl, hn⟩ | ⟨gb, cap, cur, rfl, hbase, hh, hnc, hcm, hcs, hin⟩
  · have hl : l = [] := by simpa using hn
    subst hl
    refine (AnyF.slices_SortFunc_none L none 0 _ w).mono ?_
    rintro e_ w' ⟨rfl, rfl⟩
    refine ⟨rfl, ?_, hB, Kept.refl _ _⟩
    have hz : (pdq (ltOf cf) ([] : List α).toArray 0 ([] : List α).length (Lib.bitLen ([] : List α).length) true true).toList.map val = [] := by
      have := (pdq_sorts (ltOf cf) hO ([] : List α).toArray 0 0 (Lib.bitLen 0) true true (Nat.zero_le _) (Nat.le_refl _) (Or.inl rfl)).1.1
      simpa using this
    rw [hz]
    exact Kd.R_nil _ _ _ _ _
  · have hlen : (l.map val).length = l.length := List.length_map _
    rw [hlen] at hin hown hnc
    let enc : α → List Value := fun x => encβ (val x)
    have hk : ∀ x, (enc x).length = d.sz := fun x => d.K_len (d.K_of_M ((hM w 0 (fun _ => True) (val x) _).2 rfl))
    have h1 : ∀ x, ∀ v ∈ enc x, v.oneCell' = true := fun x => d.K_one (d.K_of_M ((hM w 0 (fun _ => True) (val x) _).2 rfl))
    have hr0 : Reps (fun x c => c = enc x) d.sz l inner := by
      refine ⟨by rw [hreps.1, hlen], fun j p hj => ?_⟩
      exact (hM _ _ _ _ _).1 (hreps.2 j (val p) (by simp [hj]))
    have hfl := flat_of_reps enc d.sz hk l inner hr0
    have hsize : l.toArray.size = l.length := by simp
    have hH : HoldsK enc d.sz w gb 0 l.toArray := holds_of enc d.sz hh (by rw [hsize, hin]; exact hfl)
    have hlt : gb < w.heap.size := (Array.getElem?_eq_some_iff.1 hh).1
    have hc : CmpLays P g #[] enc d.sz cf gb 0 l.toArray.size w := fun m os dk _ x y => hcmp x y _
    have hcon := AnyQ.slices_SortFunc_eq L d.sz aE zE enc hk h1 cf hO g #[] gb 0 cap l.toArray w eg hc hH hlt (by rw [hsize]; exact hsz)
    rw [hsize] at hcon
    simp only [List.length_map]
    refine hcon.mono ?_
    rintro e_ w' ⟨rfl, n, os, rfl⟩
    generalize hD : pdq (ltOf cf) l.toArray 0 l.length (Lib.bitLen l.length) true true = D
    have hDs : D.size = l.length := by
      have := (pdq_sorts (ltOf cf) hO l.toArray 0 l.length (Lib.bitLen l.length) true true (Nat.zero_le _) (by simp) (Or.inl rfl)).1.1
      rw [hD] at this; simpa using this
    have hFs : (flatK enc d.sz D).size = l.length * d.sz := by simp [hDs]
    have hle : (flatK enc d.sz D).size ≤ cur.size := by rw [hFs, hcs]; exact Nat.mul_le_mul_right _ hnc
    have hrow := world_row w n gb e cur (flatK enc d.sz D) os hh
    refine ⟨rfl, ?_, ?_, ?_⟩
    · refine ⟨fun k_ hk_ => Or.inl (h0 k_ hk_), (flatK enc d.sz D).toList, ?_, ?_⟩
      · refine ⟨by simp [hDs], Or.inr ⟨gb, cap, putCells id 0 (flatK enc d.sz D) cur, ?_, hbase, hrow, by simpa [hDs] using hnc, hcm, by rw [put_size, hcs], ?_⟩⟩
        · simp [hDs]
        · rw [show (D.toList.map val).length * d.sz = (flatK enc d.sz D).size from by simp [hDs]]
          exact put_take _ _ hle
      · have h2 := reps_flat enc d.sz hk D
        refine ⟨by rw [h2.1]; simp, fun j p hj => ?_⟩
        rw [List.getElem?_map] at hj
        obtain ⟨a, ha, rfl⟩ := Option.map_eq_some_iff.1 hj
        exact (hM _ _ _ _ _).2 (h2.2 j a ha)
    · refine ⟨hB.os, hB.tape, hB.output, Nat.le_trans hB.size (world_size _ _ _ _ _), fun i hi => ?_⟩
      rw [show (sortWorldK enc d.sz w gb 0 n D os).heap[i]? = w.heap[i]? from world_block w n gb (flatK enc d.sz D) os (Nat.lt_of_lt_of_le hi hB.size) (by omega)]
      exact hB.block i hi
    · refine ⟨world_size _ _ _ _ _, fun i hi hn => ?_⟩
      exact world_block w n gb (flatK enc d.sz D) os hi (fun e => hn (h0 i (by rw [e]; rfl)))
end Go.Proofs.Ytapfdhaohgkjeaa.SortKit

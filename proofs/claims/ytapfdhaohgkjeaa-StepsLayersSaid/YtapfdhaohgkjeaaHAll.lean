/- A row of the call's own behind slices.SortFunc: the shelf's worlds in the words of the printed contracts. -/
import Derived.Test.YtapfdhaohgkjeaaProg
import Derived.Below
import Derived.Deep.Draws
import Derived.Deep.AppendLies
import Derived.Maps.AppendAt
import Derived.OwnWalk
import Derived.Laws.BytesArg
import Derived.Laws.MakeOwn
import Derived.Laws.OwnMore
import Derived.Deep.OwnRows
import Derived.Tactics
import Derived.Lib.ConvBytes
import Derived.Laws.Slices
import Derived.WalkKit
import Derived.KernelRfl
import Derived.RowKit3
import Derived.Deep.LoopGhost
import Derived.Deep.QuietTactic
import Derived.BigQuiet
import Derived.WideLaws
import Derived.Deep.DeepCutAuto
import Derived.Deep.CutBlock
import Derived.Deep.RegionHeld3
import Derived.Laws.Rows
import Derived.Lib.AppendStr
import Derived.ArgAppend
import Derived.Laws.IdiomCopy
import Derived.OrdersHeld
import Derived.Laws.BitsLemmas
import Derived.RowKit
import Derived.Test.YtapfdhaohgkjeaaWAll
import Derived.Shelf.SlSortCmp.NoneTotal
import Derived.Shelf.SlLaysF0
import Derived.Shelf.SlGeneric
import Derived.StillTailTactics
import Derived.Deep.Slices
section
-- printed by xprint.py of this repo. Not trusted: Lean checks it.
namespace Go.Proofs.Ytapfdhaohgkjeaa.XP
open Go.RowKit Go.Proofs.YtapfdhaohgkjeaaW.PrintWords Go.Proofs.YtapfdhaohgkjeaaW.PrintLast Go.Proofs.YtapfdhaohgkjeaaW.PrintMore
attribute [local go_sem] max2_int min2_int max_two min_two max_three min_three max_four min_four   -- for this text's walks alone
set_option linter.unusedVariables false
set_option linter.unusedSimpArgs false



def errW : Option Int → Value
 | none => .nilIface
 | some c => .iface 0 (.int .i64 c)
theorem errW_none : errW none = .nilIface := rfl
theorem errW_some (c : Int) : errW (some c) = .iface 0 (.int .i64 c) := rfl

theorem info3 : (Try.prog.info? 3).map (fun i => (i.zero, i.size, i.bytes)) = some (some (.int .i64 0), 1, 8) := by kernel_rfl
theorem info38 : (Try.prog.info? 38).map (fun i => (i.zero, i.size, i.bytes)) = some (some (.agg #[(.int .i64 0), (.int .i64 0)]), 2, 16) := by kernel_rfl
theorem info40 : (Try.prog.info? 40).map (fun i => (i.zero, i.size, i.bytes)) = some (some (.agg #[(.int .i64 0), (.int .i64 0), (.int .i64 0)]), 3, 24) := by kernel_rfl
theorem info48 : (Try.prog.info? 48).map (fun i => (i.zero, i.size, i.bytes)) = some (some (.agg #[(.int .i64 0), (.int .i64 0)]), 2, 16) := by kernel_rfl
-- the values' own types
/-! #### struct type 48 -/
structure S48 where
 f0 : Int
 f1 : Int
def z48 : S48 := ⟨(0 : Int), (0 : Int)⟩
def k48 : Kd S48 := Kd.iso (Kd.pair (Kd.int .i64) (Kd.int .i64)) (fun x : S48 => (x.f0, x.f1))
theorem k48_open {w : World} {x : S48} {cs : List Value} (h : k48.K w x cs) : cs = [.int .i64 x.f0, .int .i64 x.f1] := by
 obtain ⟨_, _, rfl, rfl, rfl⟩ := h
 exact rfl
theorem k48_openM {w : World} {base : Nat} {ok : Nat → Prop} {x : S48} {cs : List Value} (h : k48.M w base ok x cs) : cs = [.int .i64 x.f0, .int .i64 x.f1] := by
 obtain ⟨_, _, rfl, rfl, rfl⟩ := h
 exact rfl
theorem k48_mkM (w : World) (base : Nat) (ok : Nat → Prop) (x : S48)  : k48.M w base ok x [.int .i64 x.f0, .int .i64 x.f1] := ⟨[.int .i64 x.f0], [.int .i64 x.f1], rfl, rfl, rfl⟩
def rd_T48 (xs : List S48) (i : Int) : S48 := xs.getD i.toNat z48
theorem at_T48 {w : World} {A : Option Addr} {n : Nat} {xs : List S48} (h : Kd.C k48 w A n xs) (i : Int) (h0 : 0 ≤ i) (h1 : i < n) : ∃ ad , A = some ad ∧ w.cell? (ad.add (i.toNat * 2)) = some (.int .i64 (rd_T48 xs i).f0) ∧ w.cell? ⟨(ad.add (i.toNat * 2)).block, (ad.add (i.toNat * 2)).off + 1, none⟩ = some (.int .i64 (rd_T48 xs i).f1) := by
 obtain ⟨ad, c, e, _, hK, hc0⟩ := Kd.C_get h z48 i h0 h1
 have hc : ∀ j u, c[j]? = some u → w.cell? (ad.add (i.toNat * 2 + j)) = some u := hc0
 obtain rfl := k48_open hK
 exact ⟨ad, e, hc 0 _ rfl, by rw [← add_field _ _ 1 (by omega)]; exact hc 1 _ rfl⟩

def rd_L2 (xs : List (List S48)) (i : Int) : (List S48) := xs.getD i.toNat ([] : List S48)

/-! #### struct type 38 -/
structure S38 where
 f0 : Int
 f1 : Int
def z38 : S38 := ⟨(0 : Int), (0 : Int)⟩
def k38 : Kd S38 := Kd.iso (Kd.pair (Kd.int .i64) (Kd.int .i64)) (fun x : S38 => (x.f0, x.f1))
theorem k38_open {w : World} {x : S38} {cs : List Value} (h : k38.K w x cs) : cs = [.int .i64 x.f0, .int .i64 x.f1] := by
 obtain ⟨_, _, rfl, rfl, rfl⟩ := h
 exact rfl
theorem k38_openM {w : World} {base : Nat} {ok : Nat → Prop} {x : S38} {cs : List Value} (h : k38.M w base ok x cs) : cs = [.int .i64 x.f0, .int .i64 x.f1] := by
 obtain ⟨_, _, rfl, rfl, rfl⟩ := h
 exact rfl
theorem k38_mkM (w : World) (base : Nat) (ok : Nat → Prop) (x : S38)  : k38.M w base ok x [.int .i64 x.f0, .int .i64 x.f1] := ⟨[.int .i64 x.f0], [.int .i64 x.f1], rfl, rfl, rfl⟩
def rd_T38 (xs : List S38) (i : Int) : S38 := xs.getD i.toNat z38
theorem at_T38 {w : World} {A : Option Addr} {n : Nat} {xs : List S38} (h : Kd.C k38 w A n xs) (i : Int) (h0 : 0 ≤ i) (h1 : i < n) : ∃ ad , A = some ad ∧ w.cell? (ad.add (i.toNat * 2)) = some (.int .i64 (rd_T38 xs i).f0) ∧ w.cell? ⟨(ad.add (i.toNat * 2)).block, (ad.add (i.toNat * 2)).off + 1, none⟩ = some (.int .i64 (rd_T38 xs i).f1) := by
 obtain ⟨ad, c, e, _, hK, hc0⟩ := Kd.C_get h z38 i h0 h1
 have hc : ∀ j u, c[j]? = some u → w.cell? (ad.add (i.toNat * 2 + j)) = some u := hc0
 obtain rfl := k38_open hK
 exact ⟨ad, e, hc 0 _ rfl, by rw [← add_field _ _ 1 (by omega)]; exact hc 1 _ rfl⟩

/-! #### struct type 40 -/
structure S40 where
 f0 : S38
 f1 : Int
def z40 : S40 := ⟨z38, (0 : Int)⟩
def k40 : Kd S40 := Kd.iso (Kd.pair k38 (Kd.int .i64)) (fun x : S40 => (x.f0, x.f1))
theorem k40_open {w : World} {x : S40} {cs : List Value} (h : k40.K w x cs) : cs = [.int .i64 x.f0.f0, .int .i64 x.f0.f1, .int .i64 x.f1] := by
 obtain ⟨_, _, rfl, s0, rfl⟩ := h
 obtain rfl := k38_open s0
 exact rfl
theorem k40_mkM (w : World) (base : Nat) (ok : Nat → Prop) (x : S40)  : k40.M w base ok x [.int .i64 x.f0.f0, .int .i64 x.f0.f1, .int .i64 x.f1] := ⟨[.int .i64 x.f0.f0, .int .i64 x.f0.f1], [.int .i64 x.f1], rfl, (k38_mkM w base ok x.f0 ), rfl⟩
def rd_T40 (xs : List S40) (i : Int) : S40 := xs.getD i.toNat z40
theorem at_T40 {w : World} {A : Option Addr} {n : Nat} {xs : List S40} (h : Kd.C k40 w A n xs) (i : Int) (h0 : 0 ≤ i) (h1 : i < n) : ∃ ad , A = some ad ∧ w.cell? (ad.add (i.toNat * 3)) = some (.int .i64 (rd_T40 xs i).f0.f0) ∧ w.cell? ⟨(ad.add (i.toNat * 3)).block, (ad.add (i.toNat * 3)).off + 1, none⟩ = some (.int .i64 (rd_T40 xs i).f0.f1) ∧ w.cell? ⟨(ad.add (i.toNat * 3)).block, (ad.add (i.toNat * 3)).off + 2, none⟩ = some (.int .i64 (rd_T40 xs i).f1) := by
 obtain ⟨ad, c, e, _, hK, hc0⟩ := Kd.C_get h z40 i h0 h1
 have hc : ∀ j u, c[j]? = some u → w.cell? (ad.add (i.toNat * 3 + j)) = some u := hc0
 obtain rfl := k40_open hK
 exact ⟨ad, e, hc 0 _ rfl, by rw [← add_field _ _ 1 (by omega)]; exact hc 1 _ rfl, by rw [← add_field _ _ 2 (by omega)]; exact hc 2 _ rfl⟩

def rd_L5 (xs : List (List S38)) (i : Int) : (List S38) := xs.getD i.toNat ([] : List S38)

end Go.Proofs.Ytapfdhaohgkjeaa.XP
end
section
namespace Go.Proofs.Ytapfdhaohgkjeaa.SortKit
open Go.Shelf Go.RowKit Go.Lib Go.Sort Go.Proofs.YtapfdhaohgkjeaaW.PrintWords

theorem put_take (F cur : Array Value) (hF : F.size ≤ cur.size) : (putCells id 0 F cur).toList.take F.size = F.toList := by
  apply List.ext_getElem
  · simp [putCells]; omega
  · intro i h1 h2
    have hi : i < F.size := by simpa using h2
    simp [putCells, hi]

theorem put_size (F cur : Array Value) : (putCells id 0 F cur).size = cur.size := by simp [putCells]

theorem world_size (w : World) (m g : Nat) (F : Array Value) (os : Array Obj) : w.heap.size ≤ (grow (putRow id (Sort.ahead w m) g 0 F) os).heap.size := by
  simp [putRow, mapBlock, Sort.ahead]
theorem world_block (w : World) (m g : Nat) (F : Array Value) (os : Array Obj) {i : Nat} (hi : i < w.heap.size) (hg : i ≠ g) : (grow (putRow id (Sort.ahead w m) g 0 F) os).heap[i]? = w.heap[i]? := by
  rw [heap_grow_old _ _ (by simpa [putRow, mapBlock, Sort.ahead] using hi)]
  show (w.heap.modify g (onCells (putCells id 0 F)))[i]? = w.heap[i]?
  rw [Array.getElem?_modify, if_neg (Ne.symm hg)]
theorem world_row (w : World) (m g e : Nat) (cur F : Array Value) (os : Array Obj) (hh : w.heap[g]? = some (.cells cur e (0, 0))) :
    (grow (putRow id (Sort.ahead w m) g 0 F) os).heap[g]? = some (.cells (putCells id 0 F cur) e (0, 0)) := by
  have hl : g < w.heap.size := (Array.getElem?_eq_some_iff.1 hh).1
  rw [heap_grow_old _ _ (by simpa [putRow, mapBlock, Sort.ahead] using hl)]
  show (w.heap.modify g (onCells (putCells id 0 F)))[g]? = _
  rw [Array.getElem?_modify, if_pos rfl, hh]
  rfl

variable {α : Type} [Inhabited α]

theorem reps_flat (enc : α → List Value) (k : Nat) (hk : ∀ x, (enc x).length = k) (d : Array α) :
    Reps (fun x c => c = enc x) k d.toList (flatK enc k d).toList := by
  refine ⟨by simp, fun j p hj => ?_⟩
  have hjl : j < d.size := by have := (List.getElem?_eq_some_iff.1 hj).1; simpa using this
  have hd : d[j]! = p := by
    rw [getElem!_pos d j hjl]
    have := (List.getElem?_eq_some_iff.1 hj).2
    simpa using this
  have hlen : j * k + k ≤ d.size * k := by rw [← Nat.succ_mul]; exact Nat.mul_le_mul_right _ hjl
  apply List.ext_getElem
  · simp [hk]; omega
  · intro i h1 h2
    have hi : i < k := by rw [hk] at h2; exact h2
    have hkp : 0 < k := by omega
    have hb : j * k + i < d.size * k := by omega
    have hg := get_flatK enc k d (j * k + i) hb
    rw [getElem!_pos (flatK enc k d) (j * k + i) (by simpa using hb)] at hg
    have e1 : (j * k + i) / k = j := by rw [Nat.add_comm, Nat.add_mul_div_right _ _ hkp, Nat.div_eq_of_lt hi, Nat.zero_add]
    have e2 : (j * k + i) % k = i := by rw [Nat.add_comm, Nat.add_mul_mod_self_right, Nat.mod_eq_of_lt hi]
    rw [e1, e2, hd, getElem!_pos (enc p) i h2] at hg
    simpa using hg

theorem flat_of_reps (enc : α → List Value) (k : Nat) (hk : ∀ x, (enc x).length = k) (ps : List α) (cs : List Value) (h : Reps (fun x c => c = enc x) k ps cs) :
    cs = (flatK enc k ps.toArray).toList := by
  have h2 := reps_flat enc k hk ps.toArray
  apply List.ext_getElem
  · rw [h.1]; simp
  · intro t h1 h3
    have ht : t < ps.length * k := by rw [h.1] at h1; exact h1
    have hkp : 0 < k := by rcases Nat.eq_zero_or_pos k with e | e
                           · subst e; simp at ht
                           · exact e
    have hj : t / k < ps.length := (Nat.div_lt_iff_lt_mul hkp).2 ht
    have e := Nat.div_add_mod t k
    have hm := Nat.mod_lt t hkp
    have hp : ps[t / k]? = some ps[t / k] := List.getElem?_eq_getElem hj
    have a := h.2 (t / k) _ hp
    have b := h2.2 (t / k) ps[t / k] (by rw [show ps.toArray.toList = ps from rfl]; exact hp)
    have ee : t / k * k + t % k = t := by rw [Nat.mul_comm]; exact e
    have ga : ((cs.drop (t / k * k)).take k)[t % k]? = cs[t]? := by
      rw [List.getElem?_take_of_lt hm, List.getElem?_drop, ee]
    have gb : (((flatK enc k ps.toArray).toList.drop (t / k * k)).take k)[t % k]? = (flatK enc k ps.toArray).toList[t]? := by
      rw [List.getElem?_take_of_lt hm, List.getElem?_drop, ee]
    rw [a] at ga
    rw [b] at gb
    have := ga.symm.trans gb
    rw [List.getElem?_eq_getElem h1, List.getElem?_eq_getElem h3] at this
    exact Option.some.inj this

/-- The row holds, in the sort's own words. -/
theorem holds_of (enc : α → List Value) (k : Nat) {w : World} {g e : Nat} {cur : Array Value} {d : Array α} (hh : w.heap[g]? = some (.cells cur e (0, 0)))
    (hc : cur.toList.take (d.size * k) = (flatK enc k d).toList) : HoldsK enc k w g 0 d := by
  intro j hj
  have hj' : j < d.size * k := by simpa using hj
  rw [Nat.zero_add]
  refine ⟨?_, by simp [World.frozen?, hh]⟩
  rw [cell_of_row w g j cur e (0, 0) hh]
  have := congrArg (fun l => l[j]?) hc
  simp only [List.getElem?_take_of_lt hj'] at this
  rw [Array.getElem?_toList] at this
  rw [this, Array.getElem?_toList, getElem!_pos (flatK enc k d) j hj, Array.getElem?_eq_getElem hj]
  rfl

/-- **slices.SortFunc on a row of the call's own whose elements' cells are told by the element alone.** -/
theorem sort_flat {P : Program} {ρ : Ren} (L : SlLaysF0.n6 P ρ) {β : Type} (d : Kd β) (e : Nat) (val : α → β) (encβ : β → List Value)
    (hM : ∀ w base ok x cs, d.M w base ok x cs ↔ cs = encβ x)
    (aE : ∀ w, (isAgg (ρ.t 24)).run P w = .ok true w) (zE : ∀ w, (Go.sizeOf (ρ.t 24)).run P w = .ok d.sz w)
    (cf : α → α → Int) (hO : SWO (ltOf cf)) (g : Nat) (eg : ∀ args w, (callFunc g args).run P w = .ok (.enter g args) w)
    (hcmp : ∀ (x y : α) (W : World), Calls P g #[.agg (encβ (val x)).toArray, .agg (encβ (val y)).toArray] W fun e w' => e = .returned (.int .i64 (cf x y)) ∧ ∃ q os', w' = grow (W.drewN q) os')
    (P0 : Nat → Prop) (u : Value) (l : List α) (w0 w : World) (hsz : l.length < 4611686018427387904) (hB : Below w0.heap.size w0 w)
    (ho : Kd.R d e w w0.heap.size P0 u (l.map val)) :
    Calls P (ρ.f 6) #[u, .func (.func g) #[] #[]] w fun e_ w' => e_ = .returned (.tuple #[]) ∧ Kd.R d e w' w0.heap.size (fun k_ => (P0 k_ ∨ w.heap.size ≤ k_)) u ((pdq (ltOf cf) l.toArray 0 l.length (Lib.bitLen l.length) true true).toList.map val) ∧ Below w0.heap.size w0 w' ∧ Kept w w' (fun k_ => P0 k_) := by
  obtain ⟨h0, inner, hown, hreps⟩ := ho
  rcases hown.2 with ⟨rfl, hn⟩ | ⟨gb, cap, cur, rfl, hbase, hh, hnc, hcm, hcs, hin⟩
  · have hl : l = [] := by simpa using hn
    subst hl
    refine (AnyF.slices_SortFunc_none L none 0 _ w).mono ?_
    rintro e_ w' ⟨rfl, rfl⟩
    refine ⟨rfl, ?_, hB, Kept.refl _ _⟩
    have hz : (pdq (ltOf cf) ([] : List α).toArray 0 ([] : List α).length (Lib.bitLen ([] : List α).length) true true).toList.map val = [] := by
      have := (pdq_sorts (ltOf cf) hO ([] : List α).toArray 0 0 (Lib.bitLen 0) true true (Nat.zero_le _) (Nat.le_refl _) (Or.inl rfl)).1.1
      simpa using this
    rw [hz]
    exact Kd.R_nil _ _ _ _ _
  · have hlen : (l.map val).length = l.length := List.length_map _
    rw [hlen] at hin hown hnc
    let enc : α → List Value := fun x => encβ (val x)
    have hk : ∀ x, (enc x).length = d.sz := fun x => d.K_len (d.K_of_M ((hM w 0 (fun _ => True) (val x) _).2 rfl))
    have h1 : ∀ x, ∀ v ∈ enc x, v.oneCell' = true := fun x => d.K_one (d.K_of_M ((hM w 0 (fun _ => True) (val x) _).2 rfl))
    have hr0 : Reps (fun x c => c = enc x) d.sz l inner := by
      refine ⟨by rw [hreps.1, hlen], fun j p hj => ?_⟩
      exact (hM _ _ _ _ _).1 (hreps.2 j (val p) (by simp [hj]))
    have hfl := flat_of_reps enc d.sz hk l inner hr0
    have hsize : l.toArray.size = l.length := by simp
    have hH : HoldsK enc d.sz w gb 0 l.toArray := holds_of enc d.sz hh (by rw [hsize, hin]; exact hfl)
    have hlt : gb < w.heap.size := (Array.getElem?_eq_some_iff.1 hh).1
    have hc : CmpLays P g #[] enc d.sz cf gb 0 l.toArray.size w := fun m os dk _ x y => hcmp x y _
    have hcon := AnyQ.slices_SortFunc_eq L d.sz aE zE enc hk h1 cf hO g #[] gb 0 cap l.toArray w eg hc hH hlt (by rw [hsize]; exact hsz)
    rw [hsize] at hcon
    simp only [List.length_map]
    refine hcon.mono ?_
    rintro e_ w' ⟨rfl, n, os, rfl⟩
    generalize hD : pdq (ltOf cf) l.toArray 0 l.length (Lib.bitLen l.length) true true = D
    have hDs : D.size = l.length := by
      have := (pdq_sorts (ltOf cf) hO l.toArray 0 l.length (Lib.bitLen l.length) true true (Nat.zero_le _) (by simp) (Or.inl rfl)).1.1
      rw [hD] at this; simpa using this
    have hFs : (flatK enc d.sz D).size = l.length * d.sz := by simp [hDs]
    have hle : (flatK enc d.sz D).size ≤ cur.size := by rw [hFs, hcs]; exact Nat.mul_le_mul_right _ hnc
    have hrow := world_row w n gb e cur (flatK enc d.sz D) os hh
    refine ⟨rfl, ?_, ?_, ?_⟩
    · refine ⟨fun k_ hk_ => Or.inl (h0 k_ hk_), (flatK enc d.sz D).toList, ?_, ?_⟩
      · refine ⟨by simp [hDs], Or.inr ⟨gb, cap, putCells id 0 (flatK enc d.sz D) cur, ?_, hbase, hrow, by simpa [hDs] using hnc, hcm, by rw [put_size, hcs], ?_⟩⟩
        · simp [hDs]
        · rw [show (D.toList.map val).length * d.sz = (flatK enc d.sz D).size from by simp [hDs]]
          exact put_take _ _ hle
      · have h2 := reps_flat enc d.sz hk D
        refine ⟨by rw [h2.1]; simp, fun j p hj => ?_⟩
        rw [List.getElem?_map] at hj
        obtain ⟨a, ha, rfl⟩ := Option.map_eq_some_iff.1 hj
        exact (hM _ _ _ _ _).2 (h2.2 j a ha)
    · refine ⟨hB.os, hB.tape, hB.output, Nat.le_trans hB.size (world_size _ _ _ _ _), fun i hi => ?_⟩
      rw [show (sortWorldK enc d.sz w gb 0 n D os).heap[i]? = w.heap[i]? from world_block w n gb (flatK enc d.sz D) os (Nat.lt_of_lt_of_le hi hB.size) (by omega)]
      exact hB.block i hi
    · refine ⟨world_size _ _ _ _ _, fun i hi hn => ?_⟩
      exact world_block w n gb (flatK enc d.sz D) os hi (fun e => hn (h0 i (by rw [e]; rfl)))
end Go.Proofs.Ytapfdhaohgkjeaa.SortKit
end
/- The shelf's numbers of slices.SortFunc at this translation (laid by the kit's own tool, in plain words). -/
section
namespace Go.Proofs.Ytapfdhaohgkjeaa.XP
open Go.Shelf
def sortStep_ren : Go.Shelf.Ren := ⟨fun | 6 => 42 | 15 => 66 | 14 => 65 | 28 => 83 | 29 => 84 | 20 => 75 | 21 => 76 | 22 => 77 | 23 => 78 | 24 => 79 | 25 => 80 | 26 => 81 | 27 => 82 | 46 => 96 | 47 => 97 | 48 => 98 | 49 => 99 | 50 => 100 | 57 => 104 | n => n, fun | 22 => 25 | 24 => 48 | 25 => 51 | 3 => 3 | 39 => 70 | 0 => 0 | 53 => 88 | 55 => 90 | 4 => 4 | 46 => 82 | 45 => 81 | 50 => 77 | 5 => 5 | 9 => 9 | 66 => 99 | 70 => 103 | 76 => 107 | 77 => 108 | n => n, fun | n => n⟩
theorem sortStep : Go.Proofs.SlLaysF0.n6 Try.prog sortStep_ren := {
  mixed := by kernel_rfl
  f6 := ⟨Try.f42.name, by decide, Try.func42.trans (congrArg some (by kernel_rfl))⟩
  f14 := ⟨Try.f65.name, by decide, Try.func65.trans (congrArg some (by kernel_rfl))⟩
  f15 := Try.func66.trans (congrArg some (by kernel_rfl))
  f20 := ⟨Try.f75.name, by decide, Try.func75.trans (congrArg some (by kernel_rfl))⟩
  f21 := ⟨Try.f76.name, by decide, Try.func76.trans (congrArg some (by kernel_rfl))⟩
  f22 := ⟨Try.f77.name, by decide, Try.func77.trans (congrArg some (by kernel_rfl))⟩
  f23 := ⟨Try.f78.name, by decide, Try.func78.trans (congrArg some (by kernel_rfl))⟩
  f24 := ⟨Try.f79.name, by decide, Try.func79.trans (congrArg some (by kernel_rfl))⟩
  f25 := ⟨Try.f80.name, by decide, Try.func80.trans (congrArg some (by kernel_rfl))⟩
  f26 := ⟨Try.f81.name, by decide, Try.func81.trans (congrArg some (by kernel_rfl))⟩
  f27 := ⟨Try.f82.name, by decide, Try.func82.trans (congrArg some (by kernel_rfl))⟩
  f28 := Try.func83.trans (congrArg some (by kernel_rfl))
  f29 := Try.func84.trans (congrArg some (by kernel_rfl))
  f46 := ⟨Try.f96.name, by decide, Try.func96.trans (congrArg some (by kernel_rfl))⟩
  f47 := Try.func97.trans (congrArg some (by kernel_rfl))
  f48 := Try.func98.trans (congrArg some (by kernel_rfl))
  f49 := ⟨Try.f99.name, by decide, Try.func99.trans (congrArg some (by kernel_rfl))⟩
  f50 := ⟨Try.f100.name, by decide, Try.func100.trans (congrArg some (by kernel_rfl))⟩
  f57 := ⟨Try.f104.name, by decide, Try.func104.trans (congrArg some (by kernel_rfl))⟩
  t0 := Try.underlying0
  a0 := Try.isAgg0
  z0 := Try.sizeOf0
  v0 := Try.zeroValue0
  t3 := Try.underlying3
  a3 := Try.isAgg3
  z3 := Try.sizeOf3
  v3 := Try.zeroValue3
  t4 := Try.underlying4
  a4 := Try.isAgg4
  z4 := Try.sizeOf4
  v4 := Try.zeroValue4
  t5 := Try.underlying5
  a5 := Try.isAgg5
  z5 := Try.sizeOf5
  v5 := Try.zeroValue5
  t9 := Try.underlying9
  a9 := Try.isAgg9
  z9 := Try.sizeOf9
  v9 := Try.zeroValue9
  t22 := Try.underlying25
  a22 := Try.isAgg25
  z22 := Try.sizeOf25
  v22 := Try.zeroValue25
  t25 := Try.underlying51
  a25 := Try.isAgg51
  z25 := Try.sizeOf51
  v25 := Try.zeroValue51
  t39 := Try.underlying70
  a39 := Try.isAgg70
  z39 := Try.sizeOf70
  v39 := Try.zeroValue70
  t45 := Try.underlying81
  a45 := Try.isAgg81
  z45 := Try.sizeOf81
  v45 := Try.zeroValue81
  t46 := Try.underlying82
  a46 := Try.isAgg82
  z46 := Try.sizeOf82
  v46 := Try.zeroValue82
  t50 := Try.underlying77
  a50 := Try.isAgg77
  z50 := Try.sizeOf77
  v50 := Try.zeroValue77
  t53 := Try.underlying88
  a53 := Try.isAgg88
  z53 := Try.sizeOf88
  v53 := Try.zeroValue88
  t55 := Try.underlying90
  a55 := Try.isAgg90
  z55 := Try.sizeOf90
  v55 := Try.zeroValue90
  t66 := Try.underlying99
  a66 := Try.isAgg99
  z66 := Try.sizeOf99
  v66 := Try.zeroValue99
  t70 := Try.underlying103
  a70 := Try.isAgg103
  z70 := Try.sizeOf103
  v70 := Try.zeroValue103
  t76 := Try.underlying107
  a76 := Try.isAgg107
  z76 := Try.sizeOf107
  v76 := Try.zeroValue107
  t77 := Try.underlying108
  a77 := Try.isAgg108
  z77 := Try.sizeOf108
  v77 := Try.zeroValue108 }
def sortPeriod_ren : Go.Shelf.Ren := ⟨fun | 6 => 51 | 15 => 66 | 14 => 67 | 28 => 83 | 29 => 84 | 20 => 85 | 21 => 86 | 22 => 87 | 23 => 88 | 24 => 89 | 25 => 90 | 26 => 91 | 27 => 92 | 46 => 101 | 47 => 97 | 48 => 98 | 49 => 102 | 50 => 103 | 57 => 105 | n => n, fun | 22 => 30 | 24 => 38 | 25 => 36 | 3 => 3 | 39 => 70 | 0 => 0 | 53 => 88 | 55 => 90 | 4 => 4 | 46 => 82 | 45 => 81 | 50 => 77 | 5 => 5 | 9 => 9 | 66 => 99 | 70 => 103 | 76 => 107 | 77 => 108 | n => n, fun | n => n⟩
theorem sortPeriod : Go.Proofs.SlLaysF0.n6 Try.prog sortPeriod_ren := {
  mixed := by kernel_rfl
  f6 := ⟨Try.f51.name, by decide, Try.func51.trans (congrArg some (by kernel_rfl))⟩
  f14 := ⟨Try.f67.name, by decide, Try.func67.trans (congrArg some (by kernel_rfl))⟩
  f15 := Try.func66.trans (congrArg some (by kernel_rfl))
  f20 := ⟨Try.f85.name, by decide, Try.func85.trans (congrArg some (by kernel_rfl))⟩
  f21 := ⟨Try.f86.name, by decide, Try.func86.trans (congrArg some (by kernel_rfl))⟩
  f22 := ⟨Try.f87.name, by decide, Try.func87.trans (congrArg some (by kernel_rfl))⟩
  f23 := ⟨Try.f88.name, by decide, Try.func88.trans (congrArg some (by kernel_rfl))⟩
  f24 := ⟨Try.f89.name, by decide, Try.func89.trans (congrArg some (by kernel_rfl))⟩
  f25 := ⟨Try.f90.name, by decide, Try.func90.trans (congrArg some (by kernel_rfl))⟩
  f26 := ⟨Try.f91.name, by decide, Try.func91.trans (congrArg some (by kernel_rfl))⟩
  f27 := ⟨Try.f92.name, by decide, Try.func92.trans (congrArg some (by kernel_rfl))⟩
  f28 := Try.func83.trans (congrArg some (by kernel_rfl))
  f29 := Try.func84.trans (congrArg some (by kernel_rfl))
  f46 := ⟨Try.f101.name, by decide, Try.func101.trans (congrArg some (by kernel_rfl))⟩
  f47 := Try.func97.trans (congrArg some (by kernel_rfl))
  f48 := Try.func98.trans (congrArg some (by kernel_rfl))
  f49 := ⟨Try.f102.name, by decide, Try.func102.trans (congrArg some (by kernel_rfl))⟩
  f50 := ⟨Try.f103.name, by decide, Try.func103.trans (congrArg some (by kernel_rfl))⟩
  f57 := ⟨Try.f105.name, by decide, Try.func105.trans (congrArg some (by kernel_rfl))⟩
  t0 := Try.underlying0
  a0 := Try.isAgg0
  z0 := Try.sizeOf0
  v0 := Try.zeroValue0
  t3 := Try.underlying3
  a3 := Try.isAgg3
  z3 := Try.sizeOf3
  v3 := Try.zeroValue3
  t4 := Try.underlying4
  a4 := Try.isAgg4
  z4 := Try.sizeOf4
  v4 := Try.zeroValue4
  t5 := Try.underlying5
  a5 := Try.isAgg5
  z5 := Try.sizeOf5
  v5 := Try.zeroValue5
  t9 := Try.underlying9
  a9 := Try.isAgg9
  z9 := Try.sizeOf9
  v9 := Try.zeroValue9
  t22 := Try.underlying30
  a22 := Try.isAgg30
  z22 := Try.sizeOf30
  v22 := Try.zeroValue30
  t25 := Try.underlying36
  a25 := Try.isAgg36
  z25 := Try.sizeOf36
  v25 := Try.zeroValue36
  t39 := Try.underlying70
  a39 := Try.isAgg70
  z39 := Try.sizeOf70
  v39 := Try.zeroValue70
  t45 := Try.underlying81
  a45 := Try.isAgg81
  z45 := Try.sizeOf81
  v45 := Try.zeroValue81
  t46 := Try.underlying82
  a46 := Try.isAgg82
  z46 := Try.sizeOf82
  v46 := Try.zeroValue82
  t50 := Try.underlying77
  a50 := Try.isAgg77
  z50 := Try.sizeOf77
  v50 := Try.zeroValue77
  t53 := Try.underlying88
  a53 := Try.isAgg88
  z53 := Try.sizeOf88
  v53 := Try.zeroValue88
  t55 := Try.underlying90
  a55 := Try.isAgg90
  z55 := Try.sizeOf90
  v55 := Try.zeroValue90
  t66 := Try.underlying99
  a66 := Try.isAgg99
  z66 := Try.sizeOf99
  v66 := Try.zeroValue99
  t70 := Try.underlying103
  a70 := Try.isAgg103
  z70 := Try.sizeOf103
  v70 := Try.zeroValue103
  t76 := Try.underlying107
  a76 := Try.isAgg107
  z76 := Try.sizeOf107
  v76 := Try.zeroValue107
  t77 := Try.underlying108
  a77 := Try.isAgg108
  z77 := Try.sizeOf108
  v77 := Try.zeroValue108 }
end Go.Proofs.Ytapfdhaohgkjeaa.XP
end
/- slices.SortFunc at steps.Of and at steps.Levels. -/
section
namespace Go.Proofs.Ytapfdhaohgkjeaa.XP
open Go.RowKit Go.Proofs.YtapfdhaohgkjeaaW.PrintWords Go.Proofs.YtapfdhaohgkjeaaW.PrintLast Go.Proofs.YtapfdhaohgkjeaaW.PrintMore
open Go.Sort (SWO grow alloc_eq_grow grow_grow pdq)
set_option linter.unusedVariables false
set_option linter.unusedSimpArgs false

/-! #### by the first number alone -/
abbrev Pt : Type := { s : S48 // 0 ≤ s.f0 ∧ s.f0 ≤ 1099511627776 }
instance : Inhabited Pt := ⟨⟨z48, by decide⟩⟩
def cfPt (x y : Pt) : Int := x.1.f0 - y.1.f0
theorem lt_cfPt (x y : Pt) : Go.Proofs.ltOf cfPt x y = decide (x.1.f0 < y.1.f0) := by
  unfold Go.Proofs.ltOf cfPt
  rw [decide_eq_decide]
  omega
theorem swoPt : SWO (Go.Proofs.ltOf cfPt) where
  irrefl x := by rw [lt_cfPt]; simp
  trans x y z h1 h2 := by rw [lt_cfPt] at *; simp only [decide_eq_true_eq] at *; omega
  ntrans x y z h1 h2 := by rw [lt_cfPt] at *; simp only [decide_eq_false_iff_not] at *; omega
def sortPt (l : List Pt) : List S48 := (pdq (Go.Proofs.ltOf cfPt) l.toArray 0 l.length (Lib.bitLen l.length) true true).toList.map (·.1)
def slices_SortFunc_42__43.f (l : List S48) : Option (List S48) := if h : ∀ s ∈ l, 0 ≤ s.f0 ∧ s.f0 ≤ 1099511627776 then (if l.length < 4611686018427387904 then some (sortPt (l.attach.map fun x => ⟨x.1, h x.1 x.2⟩)) else none) else none
set_option maxHeartbeats 1000000 in
theorem closure43 (x y : Pt) (W : World) : Calls Try.prog 43 #[.agg #[.int .i64 x.1.f0, .int .i64 x.1.f1], .agg #[.int .i64 y.1.f0, .int .i64 y.1.f1]] W fun e w' => e = .returned (.int .i64 (cfPt x y)) ∧ ∃ q os', w' = grow (W.drewN q) os' := by
  obtain ⟨⟨a, b⟩, ha, ha'⟩ := x
  obtain ⟨⟨c, d⟩, hc, hc'⟩ := y
  simp only at ha ha' hc hc'
  show Calls Try.prog 43 #[.agg #[.int .i64 a, .int .i64 b], .agg #[.int .i64 c, .int .i64 d]] W fun e w' => e = .returned (.int .i64 (a - c)) ∧ ∃ q os', w' = grow (W.drewN q) os'
  go_enter Try.func43, Try.ntmps43
  go_wp2
  go_ret
  exact ⟨rfl, 0, _, by rw [alloc_eq_grow, alloc_eq_grow, grow_grow]; rfl⟩
theorem agg48 : ∀ w, (isAgg 48).run Try.prog w = .ok true w := fun _ => by kernel_rfl
theorem size48 : ∀ w, (Go.sizeOf 48).run Try.prog w = .ok k48.sz w := fun _ => by kernel_rfl
theorem slices_SortFunc_42__43.calls (P0_ : Nat → Prop) (u9000_ : Value) (l0 : List S48) (r : List S48) (w0 w : World) (hB : Below w0.heap.size w0 w) (ho0 : Kd.R k48 48 w w0.heap.size P0_ u9000_ l0) (h : slices_SortFunc_42__43.f l0 = some r) :
    Calls Try.prog 42 #[u9000_, .func (.func 43) #[] #[]] w fun e w' => e = .returned (.tuple #[]) ∧ Kd.R k48 48 w' w0.heap.size (fun k_ => (P0_ k_ ∨ w.heap.size ≤ k_)) u9000_ r ∧ Below w0.heap.size w0 w' ∧ Kept w w' (fun k_ => P0_ k_) := by
  unfold slices_SortFunc_42__43.f at h
  by_cases hp : ∀ s ∈ l0, 0 ≤ s.f0 ∧ s.f0 ≤ 1099511627776
  · rw [dif_pos hp] at h
    by_cases hl : l0.length < 4611686018427387904
    · rw [if_pos hl] at h
      obtain rfl := Option.some.inj h
      have hm : (l0.attach.map fun x => (⟨x.1, hp x.1 x.2⟩ : Pt)).map (·.1) = l0 := by
        rw [List.map_map]; exact List.attach_map_subtype_val l0
      have eg : ∀ args w, (callFunc 43 args).run Try.prog w = .ok (.enter 43 args) w := enters_of Try.func43 (by kernel_rfl) rfl
      exact SortKit.sort_flat sortStep k48 48 (fun x : Pt => x.1) (fun s => [.int .i64 s.f0, .int .i64 s.f1]) (fun w b ok x cs => ⟨k48_openM, fun e => by rw [e]; exact k48_mkM w b ok x⟩) agg48 size48 cfPt swoPt 43 eg closure43 P0_ u9000_ _ w0 w (by simpa using hl) hB (by rw [hm]; exact ho0)
    · rw [if_neg hl] at h; cases h
  · rw [dif_neg hp] at h; cases h
theorem slices_SortFunc_42__43.spec {l r : List S48} (h : slices_SortFunc_42__43.f l = some r) : r.Perm l ∧ r.Pairwise (fun a b => a.f0 ≤ b.f0) := by
  unfold slices_SortFunc_42__43.f at h
  by_cases hp : ∀ s ∈ l, 0 ≤ s.f0 ∧ s.f0 ≤ 1099511627776
  · rw [dif_pos hp] at h
    by_cases hl : l.length < 4611686018427387904
    · rw [if_pos hl] at h
      obtain rfl := Option.some.inj h
      have hm : (l.attach.map fun x => (⟨x.1, hp x.1 x.2⟩ : Pt)).map (·.1) = l := by
        rw [List.map_map]; exact List.attach_map_subtype_val l
      generalize (l.attach.map fun x => (⟨x.1, hp x.1 x.2⟩ : Pt)) = m at hm
      subst hm
      have hs := Go.Sort.pdq_sorts (Go.Proofs.ltOf cfPt) swoPt m.toArray 0 m.length (Lib.bitLen m.length) true true (Nat.zero_le _) (by simp) (Or.inl rfl)
      unfold sortPt
      generalize pdq (Go.Proofs.ltOf cfPt) m.toArray 0 m.length (Lib.bitLen m.length) true true = D at hs
      obtain ⟨⟨hsz, _, hperm⟩, hsort⟩ := hs
      have hsz' : D.size = m.length := by simpa using hsz
      have e1 : D.extract 0 m.length = D := by rw [← hsz']; exact Array.extract_size
      have e2 : m.toArray.extract 0 m.length = m.toArray := by simp
      rw [e1, e2] at hperm
      refine ⟨(by simpa using hperm.map (·.1)), ?_⟩
      rw [List.pairwise_map, List.pairwise_iff_getElem]
      intro i j hi hj hij
      have hj' : j < D.size := by simpa using hj
      have hi' : i < D.size := by simpa using hi
      have := hsort i j (Nat.zero_le _) hij (by omega)
      rw [getElem!_pos D j hj', getElem!_pos D i hi'] at this
      rw [lt_cfPt, decide_eq_false_iff_not] at this
      simp only [Array.getElem_toList]
      omega
    · rw [if_neg hl] at h; cases h
  · rw [dif_neg hp] at h; cases h
theorem slices_SortFunc_42__43.ends (l : List S48) (h : ∀ s ∈ l, 0 ≤ s.f0 ∧ s.f0 ≤ 1099511627776) (hl : l.length < 4611686018427387904) : ∃ r, slices_SortFunc_42__43.f l = some r := by
  unfold slices_SortFunc_42__43.f; rw [dif_pos h, if_pos hl]; exact ⟨_, rfl⟩

/-! #### periods, by both numbers -/
def cmpI (x y : Int) : Int := if x < y then -1 else if y < x then 1 else 0
def orI (x y : Int) : Int := if x = 0 then y else x
instance : Inhabited S38 := ⟨z38⟩
def cfPer (x y : S38) : Int := orI (cmpI x.f0 y.f0) (cmpI x.f1 y.f1)
theorem lt_cfPer (x y : S38) : Go.Proofs.ltOf cfPer x y = decide (x.f0 < y.f0 ∨ x.f0 = y.f0 ∧ x.f1 < y.f1) := by
  unfold Go.Proofs.ltOf cfPer orI cmpI
  rw [decide_eq_decide]
  split <;> split <;> (try split) <;> (try split) <;> (try split) <;> constructor <;> intro h <;> first | omega | (simp_all; try omega)
theorem swoPer : SWO (Go.Proofs.ltOf cfPer) where
  irrefl x := by rw [lt_cfPer]; simp
  trans x y z h1 h2 := by rw [lt_cfPer] at *; simp at *; omega
  ntrans x y z h1 h2 := by rw [lt_cfPer] at *; simp at *; omega
set_option maxHeartbeats 1000000 in
theorem compare54 (x y : Int) (w : World) : Calls Try.prog 54 #[.int .i64 x, .int .i64 y] w fun e w' => e = .returned (.int .i64 (cmpI x y)) ∧ w = w' := by
  rcases Int.lt_trichotomy x y with h | h | h
  · have e : cmpI x y = -1 := if_pos h
    rw [e]
    clear e
    have t : decide (x < y) = true := decide_eq_true h
    go_enter Try.func54, Try.ntmps54
    go_wp2
    go_ret
    exact ⟨rfl, rfl⟩
  · subst h
    have e : cmpI x x = 0 := by unfold cmpI; rw [if_neg (by omega), if_neg (by omega)]
    rw [e]
    clear e
    have t : decide (x < x) = false := decide_eq_false (by omega)
    go_enter Try.func54, Try.ntmps54
    go_wp2
    go_ret
    exact ⟨rfl, rfl⟩
  · have e : cmpI x y = 1 := by unfold cmpI; rw [if_neg (by omega), if_pos h]
    rw [e]
    clear e
    have t : decide (x < y) = false := decide_eq_false (by omega)
    have t : decide (y < x) = true := decide_eq_true h
    go_enter Try.func54, Try.ntmps54
    go_wp2
    go_ret
    exact ⟨rfl, rfl⟩
set_option maxHeartbeats 1000000 in
theorem or53 (x y : Int) (b : Nat) (w : World) (h0 : w.cell? ⟨b, 0, none⟩ = some (.int .i64 x)) (h1 : w.cell? ⟨b, 1, none⟩ = some (.int .i64 y)) : Calls Try.prog 53 #[.slice (some ⟨b, 0, none⟩) 2 2] w fun e w' => e = .returned (.int .i64 (orI x y)) ∧ w = w' := by
  by_cases hx : x = 0
  · subst hx
    rw [show orI 0 y = y from rfl]
    by_cases hy : y = 0
    · subst hy
      go_enter Try.func53, Try.ntmps53
      go_wp2
      refine wp_loop_rounds 3 ?_
      rw [rounds_succ]
      go_wp2
      rw [rounds_succ]
      go_wp2
      rw [rounds_succ]
      go_wp2
      go_ret
      exact ⟨rfl, rfl⟩
    · have t : (y == 0) = false := beq_eq_false_iff_ne.mpr hy
      have t : (y != 0) = true := bne_iff_ne.mpr hy
      go_enter Try.func53, Try.ntmps53
      go_wp2
      refine wp_loop_rounds 2 ?_
      rw [rounds_succ]
      go_wp2
      rw [rounds_succ]
      go_wp2
      go_ret
      exact ⟨rfl, rfl⟩
  · rw [show orI x y = x from if_neg hx]
    have t : (x == 0) = false := beq_eq_false_iff_ne.mpr hx
    have t : (x != 0) = true := bne_iff_ne.mpr hx
    go_enter Try.func53, Try.ntmps53
    go_wp2
    refine wp_loop_rounds 1 ?_
    rw [rounds_succ]
    go_wp2
    go_ret
    exact ⟨rfl, rfl⟩
set_option maxHeartbeats 1000000 in
set_option maxRecDepth 100000 in
theorem closure52 (x y : S38) (W : World) : Calls Try.prog 52 #[.agg #[.int .i64 x.f0, .int .i64 x.f1], .agg #[.int .i64 y.f0, .int .i64 y.f1]] W fun e w' => e = .returned (.int .i64 (cfPer x y)) ∧ ∃ q os', w' = grow (W.drewN q) os' := by
  obtain ⟨a, b⟩ := x
  obtain ⟨c, d⟩ := y
  show Calls Try.prog 52 #[.agg #[.int .i64 a, .int .i64 b], .agg #[.int .i64 c, .int .i64 d]] W fun e w' => e = .returned (.int .i64 (orI (cmpI a c) (cmpI b d))) ∧ ∃ q os', w' = grow (W.drewN q) os'
  have C1 := Aside0.mk (compare54 a c)
  have C2 := Aside0.mk (compare54 b d)
  generalize cmpI a c = p at C1 ⊢
  generalize cmpI b d = q at C2 ⊢
  go_enter Try.func52, Try.ntmps52
  go_wp2_with fail
  obtain ⟨W1, hW1⟩ : ∃ W1, W1 = ((W.alloc (.cells #[.int .i64 a, .int .i64 b] 38)).alloc (.cells #[.int .i64 c, .int .i64 d] 38)).drew := ⟨_, rfl⟩
  have m1 : W1.heap[W.heap.size]? = some (.cells #[.int .i64 a, .int .i64 b] 38 (0, 0)) := by rw [hW1]; exact blk_drew (blk_alloc (blk_new W _) _)
  have m2 : W1.heap[W.heap.size + 1]? = some (.cells #[.int .i64 c, .int .i64 d] 38 (0, 0)) := by
    rw [hW1]; have := blk_new (W.alloc (.cells #[.int .i64 a, .int .i64 b] 38)) (.cells #[.int .i64 c, .int .i64 d] 38)
    rw [World.size_alloc] at this; exact this
  have g1 : W1.cell? ⟨W.heap.size, 0, none⟩ = some (.int .i64 a) := (blk_cell m1 0).trans rfl
  have g2 : W1.cell? ⟨W.heap.size, 1, none⟩ = some (.int .i64 b) := (blk_cell m1 1).trans rfl
  have g3 : W1.cell? ⟨W.heap.size + 1, 0, none⟩ = some (.int .i64 c) := (blk_cell m2 0).trans rfl
  have g4 : W1.cell? ⟨W.heap.size + 1, 1, none⟩ = some (.int .i64 d) := (blk_cell m2 1).trans rfl
  clear m1 m2
  refine wp_region_still_tail 10 (by kernel_rfl) (by kernel_rfl) ?_
  change wpStill _ _ ((W.alloc (.cells #[.int .i64 a, .int .i64 b] 38)).alloc (.cells #[.int .i64 c, .int .i64 d] 38)).drew _ _ _
  rw [← hW1]
  have HW1 := Aside0.mk hW1
  clear hW1
  simp only [List.take_succ_cons, List.take_zero, List.drop_succ_cons, List.drop_zero]
  still_step
  still_step
  still_step
  still_step
  still_call ((C1.out _).mono fun _ _ ⟨h1, h2⟩ => ⟨h1, h2.symm⟩)
  still_step
  still_step
  still_step
  still_step
  still_call ((C2.out _).mono fun _ _ ⟨h1, h2⟩ => ⟨h1, h2.symm⟩)
  refine wpStill_nil ?_
  change wpList _ _ _ _ _ ((W.alloc (.cells #[.int .i64 a, .int .i64 b] 38)).alloc (.cells #[.int .i64 c, .int .i64 d] 38)).drew
  rw [← HW1.out]
  clear C1 C2 g1 g2 g3 g4
  go_wp2_with (go_at_call 53; refine (or53 p q W1.heap.size _ ((blk_cell (blk_new W1 _) 0).trans rfl) ((blk_cell (blk_new W1 _) 1).trans rfl)).mono ?_; rintro e w' ⟨rfl, rfl⟩)
  go_ret
  exact ⟨rfl, 1, _, by rw [HW1.out, alloc_eq_grow, alloc_eq_grow, alloc_eq_grow, grow_grow, Go.Sort.drew_grow, grow_grow]; rfl⟩

def slices_SortFunc_51__52.f (l : List S38) : Option (List S38) := if l.length < 4611686018427387904 then some ((pdq (Go.Proofs.ltOf cfPer) l.toArray 0 l.length (Lib.bitLen l.length) true true).toList.map id) else none
theorem agg38 : ∀ w, (isAgg 38).run Try.prog w = .ok true w := fun _ => by kernel_rfl
theorem size38 : ∀ w, (Go.sizeOf 38).run Try.prog w = .ok k38.sz w := fun _ => by kernel_rfl
theorem slices_SortFunc_51__52.calls (P0_ : Nat → Prop) (u9000_ : Value) (l0 : List S38) (r : List S38) (w0 w : World) (hB : Below w0.heap.size w0 w) (ho0 : Kd.R k38 38 w w0.heap.size P0_ u9000_ l0) (h : slices_SortFunc_51__52.f l0 = some r) :
    Calls Try.prog 51 #[u9000_, .func (.func 52) #[] #[]] w fun e w' => e = .returned (.tuple #[]) ∧ Kd.R k38 38 w' w0.heap.size (fun k_ => (P0_ k_ ∨ w.heap.size ≤ k_)) u9000_ r ∧ Below w0.heap.size w0 w' ∧ Kept w w' (fun k_ => P0_ k_) := by
  unfold slices_SortFunc_51__52.f at h
  by_cases hl : l0.length < 4611686018427387904
  · rw [if_pos hl] at h
    obtain rfl := Option.some.inj h
    have eg : ∀ args w, (callFunc 52 args).run Try.prog w = .ok (.enter 52 args) w := enters_of Try.func52 (by kernel_rfl) rfl
    exact SortKit.sort_flat sortPeriod k38 38 id (fun s => [.int .i64 s.f0, .int .i64 s.f1]) (fun w b ok x cs => ⟨k38_openM, fun e => by rw [e]; exact k38_mkM w b ok x⟩) agg38 size38 cfPer swoPer 52 eg closure52 P0_ u9000_ _ w0 w hl hB (by rw [List.map_id]; exact ho0)
  · rw [if_neg hl] at h; cases h
def perLt (x y : S38) : Prop := x.f0 < y.f0 ∨ x.f0 = y.f0 ∧ x.f1 < y.f1
theorem slices_SortFunc_51__52.spec {l r : List S38} (h : slices_SortFunc_51__52.f l = some r) : r.Perm l ∧ r.Pairwise (fun a b => ¬ perLt b a) := by
  unfold slices_SortFunc_51__52.f at h
  by_cases hl : l.length < 4611686018427387904
  · rw [if_pos hl] at h
    obtain rfl := Option.some.inj h
    rw [List.map_id]
    have hs := Go.Sort.pdq_sorts (Go.Proofs.ltOf cfPer) swoPer l.toArray 0 l.length (Lib.bitLen l.length) true true (Nat.zero_le _) (by simp) (Or.inl rfl)
    generalize pdq (Go.Proofs.ltOf cfPer) l.toArray 0 l.length (Lib.bitLen l.length) true true = D at hs
    obtain ⟨⟨hsz, _, hperm⟩, hsort⟩ := hs
    have hsz' : D.size = l.length := by simpa using hsz
    have e1 : D.extract 0 l.length = D := by rw [← hsz']; exact Array.extract_size
    have e2 : l.toArray.extract 0 l.length = l.toArray := by simp
    rw [e1, e2] at hperm
    refine ⟨by simpa using hperm, ?_⟩
    rw [List.pairwise_iff_getElem]
    intro i j hi hj hij
    have hj' : j < D.size := by simpa using hj
    have hi' : i < D.size := by simpa using hi
    have := hsort i j (Nat.zero_le _) hij (by omega)
    rw [getElem!_pos D j hj', getElem!_pos D i hi'] at this
    rw [lt_cfPer, decide_eq_false_iff_not] at this
    simpa only [Array.getElem_toList, perLt] using this
  · rw [if_neg hl] at h; cases h
theorem slices_SortFunc_51__52.ends (l : List S38) (hl : l.length < 4611686018427387904) : ∃ r, slices_SortFunc_51__52.f l = some r := by
  unfold slices_SortFunc_51__52.f; rw [if_pos hl]; exact ⟨_, rfl⟩
end Go.Proofs.Ytapfdhaohgkjeaa.XP
end
section
-- printed by xprint.py of this repo. Not trusted: Lean checks it.
namespace Go.Proofs.Ytapfdhaohgkjeaa.XP
open Go.RowKit Go.Proofs.YtapfdhaohgkjeaaW.PrintWords Go.Proofs.YtapfdhaohgkjeaaW.PrintLast Go.Proofs.YtapfdhaohgkjeaaW.PrintMore
attribute [local go_sem] max2_int min2_int max_two min_two max_three min_three max_four min_four   -- for this text's walks alone
set_option linter.unusedVariables false
set_option linter.unusedSimpArgs false

theorem eqA48 (d : Nat) (w : World) (x0 y0 : Int) (x1 y1 : Int) :
  (Op.equalIn (d + 2) 48 (.agg #[.int .i64 x0, .int .i64 x1]) (.agg #[.int .i64 y0, .int .i64 y1])).run Try.prog w = .ok (x0 == y0 && (x1 == y1)) w := by
 refine eqA_of Try.underlying48 (by kernel_rfl) ?_
 refine eqf_cons (by rfl) (by go_simp; rfl) (by go_simp; rfl) (by go_simp) ?_
 exact eqf_last (by rfl) (by go_simp; rfl) (by go_simp; rfl) (by go_simp)
end Go.Proofs.Ytapfdhaohgkjeaa.XP
end
/- A call through a variable that holds a known function, in a region that draws its order. -/
section
namespace Go.Proofs.Ytapfdhaohgkjeaa.XP
open Go.RowKit Go.Proofs.YtapfdhaohgkjeaaW.PrintWords Go.Proofs.YtapfdhaohgkjeaaW.PrintLast Go.Proofs.YtapfdhaohgkjeaaW.PrintMore
section
variable {P : Program} {ops : Array Oper} {Q : Exit → Act → World → Prop}
theorem goesT_ {oi : Oper} {N : Option Tmp} {a : Act} {w : World} {K : Act → World → Prop} {f : FuncId} {fn : Func} {c : Operand} {xs : Array Operand} {ts : Array TypeId} (hf : P.funcs[f]? = some fn) (hname : (fn.name == "runtime.NumGoroutine") = false) (hb : fn.body.isSome = true) (args : Array Value)
    (hw : Region.wanted oi (yielded ops a.tmps) = true) (hN : oi.dst = N) (hop : oi.op = .call { callee := .value c, args := xs, argTypes := ts }) (hc : a.eval c = .func (.func f) #[] #[]) (hargs : xs.map a.eval = args)
    (h : Calls P f args w fun e w' => ∃ v, e = .returned v ∧ K (a.put N v) w') : if Region.wanted oi (yielded ops a.tmps) = true then Oper.wp P oi a w K Q else K (a.put N undef) w := by
  refine call_ f args hw hN ?_ h
  have he := enters_ hf hname hb args w
  unfold execOp
  simp [hop, resolve, Deferred.ofValue, invoke, hc, hargs, he]
end
end Go.Proofs.Ytapfdhaohgkjeaa.XP
end
section
-- printed by xprint.py of this repo. Not trusted: Lean checks it.
namespace Go.Proofs.Ytapfdhaohgkjeaa.XP
open Go.RowKit Go.Proofs.YtapfdhaohgkjeaaW.PrintWords Go.Proofs.YtapfdhaohgkjeaaW.PrintLast Go.Proofs.YtapfdhaohgkjeaaW.PrintMore
attribute [local go_sem] max2_int min2_int max_two min_two max_three min_three max_four min_four   -- for this text's walks alone
set_option linter.unusedVariables false
set_option linter.unusedSimpArgs false

theorem eqA38 (d : Nat) (w : World) (x0 y0 : Int) (x1 y1 : Int) :
  (Op.equalIn (d + 2) 38 (.agg #[.int .i64 x0, .int .i64 x1]) (.agg #[.int .i64 y0, .int .i64 y1])).run Try.prog w = .ok (x0 == y0 && (x1 == y1)) w := by
 refine eqA_of Try.underlying38 (by kernel_rfl) ?_
 refine eqf_cons (by rfl) (by go_simp; rfl) (by go_simp; rfl) (by go_simp) ?_
 exact eqf_last (by rfl) (by go_simp; rfl) (by go_simp; rfl) (by go_simp)
end Go.Proofs.Ytapfdhaohgkjeaa.XP
end
/- What steps.Levels keeps in memory: the three variables that its closure has captured, and the two rows. -/
section
namespace Go.Proofs.Ytapfdhaohgkjeaa.XP
open Go.RowKit Go.Proofs.YtapfdhaohgkjeaaW.PrintWords Go.Proofs.YtapfdhaohgkjeaaW.PrintLast Go.Proofs.YtapfdhaohgkjeaaW.PrintMore
theorem info59 : (Try.prog.info? 59).map (fun i => (i.zero, i.size, i.bytes)) = some (some (.agg #[(.int .i64 0), (.int .i64 0)]), 2, 16) := by kernel_rfl
structure S59 where
  f0 : Int
  f1 : Int
def z59 : S59 := ⟨(0 : Int), (0 : Int)⟩
def k59 : Kd S59 := Kd.iso (Kd.pair (Kd.int .i64) (Kd.int .i64)) (fun x : S59 => (x.f0, x.f1))
theorem k59_openM {w : World} {base : Nat} {ok : Nat → Prop} {x : S59} {cs : List Value} (h : k59.M w base ok x cs) : cs = [.int .i64 x.f0, .int .i64 x.f1] := by
  obtain ⟨_, _, rfl, rfl, rfl⟩ := h
  exact rfl
theorem k59_mkM (w : World) (base : Nat) (ok : Nat → Prop) (x : S59)  : k59.M w base ok x [.int .i64 x.f0, .int .i64 x.f1] := ⟨[.int .i64 x.f0], [.int .i64 x.f1], rfl, rfl, rfl⟩

structure LS (B : Nat) (w0 w : World) (gh gs go : Nat) (h : Int) (vs vo : Value) (stk : List S59) (out : List S38) : Prop where
  below : Below B w0 w
  base : B ≤ w.heap.size
  lh : B ≤ gh
  ls : B ≤ gs
  lo : B ≤ go
  bh : w.heap[gh]? = some (.cells #[.int .i64 h] 3 (0, 0))
  bs : w.heap[gs]? = some (.cells #[vs] 57 (0, 0))
  bo : w.heap[go]? = some (.cells #[vo] 30 (0, 0))
  rs : Kd.R k59 59 w B (fun _ => True) vs stk
  ro : Kd.R k38 38 w B (fun _ => True) vo out
section
variable {B : Nat} {w0 w : World} {gh gs go : Nat} {h : Int} {vs vo : Value} {stk : List S59} {out : List S38}
theorem size_set (w : World) (p : Addr) (v : Value) : (w.setCell p v).heap.size = w.heap.size := by simp [World.setCell]
theorem LS.drewN (S : LS B w0 w gh gs go h vs vo stk out) (n : Nat) : LS B w0 (w.drewN n) gh gs go h vs vo stk out :=
  ⟨pw_below_drewN S.below n, S.base, S.lh, S.ls, S.lo, S.bh, S.bs, S.bo, Kd.R_drewN S.rs n, Kd.R_drewN S.ro n⟩
theorem LS.drew (S : LS B w0 w gh gs go h vs vo stk out) : LS B w0 w.drew gh gs go h vs vo stk out :=
  ⟨below_drew S.below, S.base, S.lh, S.ls, S.lo, S.bh, S.bs, S.bo, Kd.R_drew S.rs, Kd.R_drew S.ro⟩
theorem LS.alloc (S : LS B w0 w gh gs go h vs vo stk out) (o : Obj) : LS B w0 (w.alloc o) gh gs go h vs vo stk out :=
  ⟨S.below.alloc S.base o, Nat.le_trans S.base (by simp), S.lh, S.ls, S.lo, blk_alloc S.bh o, blk_alloc S.bs o, blk_alloc S.bo o, Kd.R_alloc S.rs o, Kd.R_alloc S.ro o⟩
theorem LS.setH (S : LS B w0 w gh gs go h vs vo stk out) (h' : Int) : LS B w0 (w.setCell ⟨gh, 0, none⟩ (.int .i64 h')) gh gs go h' vs vo stk out :=
  ⟨S.below.setCell S.lh _, by rw [size_set]; exact S.base, S.lh, S.ls, S.lo, blk_set S.bh 0 _, blk_far S.bs (blk_ne S.bs S.bh (by decide)) _, blk_far S.bo (blk_ne S.bo S.bh (by decide)) _, Kd.R_set S.rs S.bh (by decide) 0 _, Kd.R_set S.ro S.bh (by decide) 0 _⟩
/-- The stack's variable takes a part of its own row. -/
theorem LS.cut {A : Option Addr} {n c m : Nat} (S : LS B w0 w gh gs go h (.slice A n c) vo stk out) (hm : m ≤ stk.length) : LS B w0 (w.setCell ⟨gs, 0, none⟩ (.slice A m c)) gh gs go h (.slice A m c) vo (stk.take m) out :=
  ⟨S.below.setCell S.ls _, by rw [size_set]; exact S.base, S.lh, S.ls, S.lo, blk_far S.bh (blk_ne S.bh S.bs (by decide)) _, blk_set S.bs 0 _, blk_far S.bo (blk_ne S.bo S.bs (by decide)) _, Kd.R_set (Kd.R_take S.rs hm) S.bs (by decide) 0 _, Kd.R_set S.ro S.bs (by decide) 0 _⟩
/-- An element of the stack gets another number. -/
theorem LS.setMany {g n c : Nat} (S : LS B w0 w gh gs go h (.slice (some ⟨g, 0, none⟩) n c) vo stk out) (i : Nat) (hi : i < stk.length) (m : Int) :
    LS B w0 (w.setCell ⟨g, i * 2 + 1, none⟩ (.int .i64 m)) gh gs go h (.slice (some ⟨g, 0, none⟩) n c) vo (stk.set i ⟨(stk.getD i z59).f0, m⟩) out := by
  have hn := (Kd.R_reads' S.rs).1
  obtain ⟨ce, hcl, hM, hcc, _⟩ := Kd.R_elem S.rs z59 (i : Int) (by omega) (by omega)
  obtain rfl := k59_openM hM
  have hseg := Kd.R_seg S.rs (i : Int) (by omega) (by omega) (seg := [.int .i64 m]) (j := 1) hcl hcc (show 2 ≤ 2 from by decide) (x' := (⟨(stk.getD i z59).f0, m⟩ : S59)) (k59_mkM _ _ _ _) (fun _ hk => hk)
  have hw : w.setCells g ((i : Int).toNat * k59.sz + 1) [.int .i64 m] = w.setCell ⟨g, i * 2 + 1, none⟩ (.int .i64 m) := rfl
  rw [hw] at hseg
  obtain ⟨cells, hty⟩ := Kd.R_typed S.rs g rfl
  have hgb : B ≤ g := Kd.R_base S.rs g rfl
  exact ⟨S.below.setCell hgb _, by rw [size_set]; exact S.base, S.lh, S.ls, S.lo, blk_far S.bh (blk_ne S.bh hty (by decide)) _, blk_far S.bs (blk_ne S.bs hty (by decide)) _, blk_far S.bo (blk_ne S.bo hty (by decide)) _, hseg.1, Kd.R_set S.ro hty (by decide) _ _⟩
/-- The list has grown, and its variable holds it. -/
theorem LS.outed {w1 : World} {v1 : Value} {out1 : List S38} (S : LS B w0 w gh gs go h vs vo stk out) (hR : Kd.R k38 38 w1 B (fun _ => True) v1 out1) (hb : Below B w0 w1) (hg : w.grownBy w1 vo.ownBlock) :
    LS B w0 (w1.setCell ⟨go, 0, none⟩ v1) gh gs go h vs v1 stk out1 := by
  have ty := Kd.R_typed S.ro
  have ne : ∀ {g t : Nat} {cs : Array Value}, w.heap[g]? = some (.cells cs t (0, 0)) → t ≠ 38 → some g ≠ vo.ownBlock := fun hb ht e => by
    obtain ⟨cells, hc⟩ := ty _ e.symm
    exact blk_ne hb hc ht rfl
  have bo1 := blk_grown S.bo hg (ne S.bo (by decide))
  exact ⟨hb.setCell S.lo _, by rw [size_set]; exact Nat.le_trans S.base hg.size, S.lh, S.ls, S.lo, blk_far (blk_grown S.bh hg (ne S.bh (by decide))) (blk_ne S.bh S.bo (by decide)) _, blk_far (blk_grown S.bs hg (ne S.bs (by decide))) (blk_ne S.bs S.bo (by decide)) _, blk_set bo1 0 _,
    Kd.R_set (Kd.R_over' S.rs ty (by decide) hg) bo1 (by decide) 0 _, Kd.R_set hR bo1 (by decide) 0 _⟩
/-- The stack has grown, and its variable holds it. -/
theorem LS.pushed {w1 : World} {v1 : Value} {stk1 : List S59} (S : LS B w0 w gh gs go h vs vo stk out) (hR : Kd.R k59 59 w1 B (fun _ => True) v1 stk1) (hb : Below B w0 w1) (hg : w.grownBy w1 vs.ownBlock) :
    LS B w0 (w1.setCell ⟨gs, 0, none⟩ v1) gh gs go h v1 vo stk1 out := by
  have ty := Kd.R_typed S.rs
  have ne : ∀ {g t : Nat} {cs : Array Value}, w.heap[g]? = some (.cells cs t (0, 0)) → t ≠ 59 → some g ≠ vs.ownBlock := fun hb ht e => by
    obtain ⟨cells, hc⟩ := ty _ e.symm
    exact blk_ne hb hc ht rfl
  have bs1 := blk_grown S.bs hg (ne S.bs (by decide))
  exact ⟨hb.setCell S.ls _, by rw [size_set]; exact Nat.le_trans S.base hg.size, S.lh, S.ls, S.lo, blk_far (blk_grown S.bh hg (ne S.bh (by decide))) (blk_ne S.bh S.bs (by decide)) _, blk_set bs1 0 _, blk_far (blk_grown S.bo hg (ne S.bo (by decide))) (blk_ne S.bo S.bs (by decide)) _,
    Kd.R_set hR bs1 (by decide) 0 _, Kd.R_set (Kd.R_over' S.ro ty (by decide) hg) bs1 (by decide) 0 _⟩
/-- What an append to the stack leaves alone. -/
theorem LS.kept_s {w1 : World} (S : LS B w0 w gh gs go h vs vo stk out) (hg : w.grownBy w1 vs.ownBlock) :
    w1.heap[gh]? = some (.cells #[.int .i64 h] 3 (0, 0)) ∧ w1.heap[gs]? = some (.cells #[vs] 57 (0, 0)) ∧ w1.heap[go]? = some (.cells #[vo] 30 (0, 0)) := by
  have ty := Kd.R_typed S.rs
  have ne : ∀ {g t : Nat} {cs : Array Value}, w.heap[g]? = some (.cells cs t (0, 0)) → t ≠ 59 → some g ≠ vs.ownBlock := fun hb ht e => by
    obtain ⟨cells, hc⟩ := ty _ e.symm
    exact blk_ne hb hc ht rfl
  exact ⟨blk_grown S.bh hg (ne S.bh (by decide)), blk_grown S.bs hg (ne S.bs (by decide)), blk_grown S.bo hg (ne S.bo (by decide))⟩
/-- What an append to the list leaves alone. -/
theorem LS.kept_o {w1 : World} (S : LS B w0 w gh gs go h vs vo stk out) (hg : w.grownBy w1 vo.ownBlock) :
    w1.heap[gh]? = some (.cells #[.int .i64 h] 3 (0, 0)) ∧ w1.heap[gs]? = some (.cells #[vs] 57 (0, 0)) ∧ w1.heap[go]? = some (.cells #[vo] 30 (0, 0)) := by
  have ty := Kd.R_typed S.ro
  have ne : ∀ {g t : Nat} {cs : Array Value}, w.heap[g]? = some (.cells cs t (0, 0)) → t ≠ 38 → some g ≠ vo.ownBlock := fun hb ht e => by
    obtain ⟨cells, hc⟩ := ty _ e.symm
    exact blk_ne hb hc ht rfl
  exact ⟨blk_grown S.bh hg (ne S.bh (by decide)), blk_grown S.bs hg (ne S.bs (by decide)), blk_grown S.bo hg (ne S.bo (by decide))⟩
end
end Go.Proofs.Ytapfdhaohgkjeaa.XP
end
/- The closure of steps.Levels. -/
section
namespace Go.Proofs.Ytapfdhaohgkjeaa.XP
open Go.RowKit Go.Proofs.YtapfdhaohgkjeaaW.PrintWords Go.Proofs.YtapfdhaohgkjeaaW.PrintLast Go.Proofs.YtapfdhaohgkjeaaW.PrintMore
set_option linter.unusedVariables false
set_option linter.unusedSimpArgs false
set_option maxHeartbeats 4000000 in
set_option maxRecDepth 100000 in
theorem set_push (B : Nat) (w0 w : World) (gh gs go : Nat) (at_ n h : Int) (vs vo : Value) (stk : List S59) (out : List S38) (S : LS B w0 w gh gs go h vs vo stk out) (hn : h < n) (h0 : 0 ≤ h) (hm : n ≤ 1048576) (hl : stk.length < 1048576) :
    Calls Try.prog 50 #[.int .i64 at_, .int .i64 n, .pointer (some ⟨gh, 0, none⟩), .pointer (some ⟨gs, 0, none⟩), .pointer (some ⟨go, 0, none⟩)] w fun e w' => e = .returned (.tuple #[]) ∧ ∃ vs', LS B w0 w' gh gs go n vs' vo (stk ++ [⟨at_, n - h⟩]) out := by
  have S := Aside0.mk S
  obtain ⟨As, cs, es⟩ := Kd.R_slice S.out.rs
  subst es
  have ch : w.cell? ⟨gh, 0, none⟩ = some (.int .i64 h) := (blk_cell S.out.bh 0).trans rfl
  have cst : w.cell? ⟨gs, 0, none⟩ = some (.slice As stk.length cs) := (blk_cell S.out.bs 0).trans rfl
  have fh : w.frozen? ⟨gh, 0, none⟩ = false := blk_frozen S.out.bh 0
  have fs : w.frozen? ⟨gs, 0, none⟩ = false := blk_frozen S.out.bs 0
  have t1 : decide (h < n) = true := decide_eq_true hn
  go_enter Try.func50, Try.ntmps50
  go_wp2_with (first | (at_builtin; refine Kd.R_append k59 (w0 := w0) B rfl (.tmp 12) (.tmp 18) 57 59 (.agg #[(.int .i64 0), (.int .i64 0)]) 16 rfl Try.underlying57 info59 rfl (by decide) (by omega) (.slice As stk.length cs) stk (⟨at_, n - h⟩ : S59) [.int .i64 at_, .int .i64 (n - h)] (fun _ => True) (fun _ => False) rfl rfl (k59_mkM _ _ _ (⟨at_, n - h⟩ : S59)) (fun _ hk => hk.elim) (fun _ _ => trivial) S.out.rs S.out.below S.out.base (by omega) ?_; intro v1 w1 hR hb hg _; obtain ⟨A1, n1, e1⟩ := Kd.R_slice hR; rw [List.length_append, List.length_singleton] at e1; subst e1; have K1 := Aside0.mk (S.out.kept_s hg); have S2 := Aside0.mk (S.out.pushed hR hb hg); have S3 := Aside0.mk (S2.out.setH n); clear S hR hb hg ch cst fh fs; have c1 : w1.cell? ⟨gs, 0, none⟩ = some (.slice As stk.length cs) := (blk_cell K1.out.2.1 0).trans rfl; have f1 : w1.frozen? ⟨gs, 0, none⟩ = false := blk_frozen K1.out.2.1 0; have c2 : (w1.setCell ⟨gs, 0, none⟩ (.slice A1 (stk.length + 1) n1)).cell? ⟨gh, 0, none⟩ = some (.int .i64 h) := (blk_cell S2.out.bh 0).trans rfl; have f2 : (w1.setCell ⟨gs, 0, none⟩ (.slice A1 (stk.length + 1) n1)).frozen? ⟨gh, 0, none⟩ = false := blk_frozen S2.out.bh 0; have c3 : ((w1.setCell ⟨gs, 0, none⟩ (.slice A1 (stk.length + 1) n1)).setCell ⟨gh, 0, none⟩ (.int .i64 n)).cell? ⟨gh, 0, none⟩ = some (.int .i64 n) := (blk_cell S3.out.bh 0).trans rfl))
  refine wp_loop_rounds 1 ?_
  rw [rounds_succ]
  go_wp2
  go_end0
  exact ⟨rfl, _, S3.out⟩
end Go.Proofs.Ytapfdhaohgkjeaa.XP
end
/- The closure of steps.Levels, where it takes levels off. -/
section
namespace Go.Proofs.Ytapfdhaohgkjeaa.XP
open Go.RowKit Go.Proofs.YtapfdhaohgkjeaaW.PrintWords Go.Proofs.YtapfdhaohgkjeaaW.PrintLast Go.Proofs.YtapfdhaohgkjeaaW.PrintMore
attribute [local go_sem] max2_int min2_int max_two min_two
set_option linter.unusedVariables false
set_option linter.unusedSimpArgs false
def popR (at_ n : Int) : Int → List S59 → List S38 → Int × List S59 × List S38
  | h, [], out => (h, [], out)
  | h, s :: r, out =>
    if n < h then
      if s.f1 ≤ h - n then popR at_ n (h - s.f1) r (out ++ List.replicate s.f1.toNat ⟨s.f0, at_⟩)
      else (n, ⟨s.f0, s.f1 - (h - n)⟩ :: r, out ++ List.replicate (h - n).toNat ⟨s.f0, at_⟩)
    else (h, s :: r, out)
def sumM : List S59 → Int
  | [] => 0
  | s :: r => s.f1 + sumM r
theorem sumM_nonneg : ∀ rs : List S59, (∀ s ∈ rs, 1 ≤ s.f1) → 0 ≤ sumM rs
  | [], _ => by simp [sumM]
  | s :: r, h => by
    have := sumM_nonneg r (fun x hx => h x (List.mem_cons_of_mem _ hx))
    have := h s List.mem_cons_self
    simp only [sumM]; omega
theorem popR_done (at_ n h : Int) (rs : List S59) (out : List S38) (hn : ¬ n < h) : popR at_ n h rs out = (h, rs, out) := by
  cases rs <;> simp [popR, hn]
theorem sumM_len : ∀ rs : List S59, (∀ s ∈ rs, 1 ≤ s.f1) → (rs.length : Int) ≤ sumM rs
  | [], _ => by simp [sumM]
  | s :: r, h => by
    have := sumM_len r (fun x hx => h x (List.mem_cons_of_mem _ hx))
    have := h s List.mem_cons_self
    simp only [sumM, List.length_cons]; omega
theorem rev_set (s x : S59) (r : List S59) : (s :: r).reverse.set r.length x = (x :: r).reverse := by
  rw [List.reverse_cons, List.reverse_cons]
  have : r.length = r.reverse.length := by simp
  rw [this, List.set_append_right _ _ (Nat.le_refl _)]
  simp
theorem rev_take (s : S59) (r : List S59) : (s :: r).reverse.take r.length = r.reverse := by
  rw [List.reverse_cons]
  have : r.length = r.reverse.length := by simp
  rw [this, List.take_left]
structure PopInv (at_ n h : Int) (rs : List S59) (out : List S38) (fin : Int × List S59 × List S38) (K : Nat) : Prop where
  sum : sumM rs = h
  pos : ∀ s ∈ rs, 1 ≤ s.f1
  hi : h ≤ 1048576
  room : out.length + h.toNat ≤ 4398046511104
  fin_ : popR at_ n h rs out = fin
  k : K = rs.length + if n < h then 1 else 0
theorem PopInv.popped {at_ n h : Int} {s : S59} {r : List S59} {out : List S38} {fin : Int × List S59 × List S38} {K : Nat} (I : PopInv at_ n h (s :: r) out fin K) (hn : n < h) (hs : s.f1 ≤ h - n) :
    PopInv at_ n (h - s.f1) r (out ++ List.replicate s.f1.toNat ⟨s.f0, at_⟩) fin (r.length + if n < h - s.f1 then 1 else 0) ∧ (r.length + if n < h - s.f1 then 1 else 0) < K := by
  have b1 := I.pos s List.mem_cons_self
  have hsum := I.sum
  have hk := I.k
  have hr := I.room
  have hf := I.fin_
  simp only [sumM] at hsum
  rw [if_pos hn] at hk
  rw [popR, if_pos hn, if_pos hs] at hf
  have := sumM_nonneg r (fun x hx => I.pos x (List.mem_cons_of_mem _ hx))
  refine ⟨⟨by omega, fun x hx => I.pos x (List.mem_cons_of_mem _ hx), by have := I.hi; omega, ?_, hf, rfl⟩, ?_⟩
  · rw [List.length_append, List.length_replicate]; omega
  · rw [hk, List.length_cons]; split <;> omega
theorem PopInv.less {at_ n h : Int} {s : S59} {r : List S59} {out : List S38} {fin : Int × List S59 × List S38} {K : Nat} (I : PopInv at_ n h (s :: r) out fin K) (hn : n < h) (hs : h - n < s.f1) :
    PopInv at_ n n (⟨s.f0, s.f1 - (h - n)⟩ :: r) (out ++ List.replicate (h - n).toNat ⟨s.f0, at_⟩) fin (r.length + 1) ∧ r.length + 1 < K := by
  have hsum := I.sum
  have hk := I.k
  have hr := I.room
  have hf := I.fin_
  simp only [sumM] at hsum
  rw [if_pos hn] at hk
  rw [popR, if_pos hn, if_neg (by omega)] at hf
  have := sumM_nonneg r (fun x hx => I.pos x (List.mem_cons_of_mem _ hx))
  refine ⟨⟨by simp only [sumM]; omega, fun x hx => ?_, by have := I.hi; omega, ?_, by rw [popR_done _ _ _ _ _ (by omega)]; exact hf, by simp⟩, ?_⟩
  · rcases List.mem_cons.1 hx with rfl | hx
    · show 1 ≤ s.f1 - (h - n); omega
    · exact I.pos x (List.mem_cons_of_mem _ hx)
  · rw [List.length_append, List.length_replicate]; omega
  · rw [hk, List.length_cons]; omega
set_option maxHeartbeats 8000000 in
set_option maxRecDepth 100000 in
theorem set_pop (B : Nat) (w0 w : World) (gh gs go : Nat) (at_ n h : Int) (vs vo : Value) (rs : List S59) (out : List S38) (S : LS B w0 w gh gs go h vs vo rs.reverse out) (hn : ¬ h < n) (h0 : 0 ≤ n) (fin : Int × List S59 × List S38) (K : Nat) (I : PopInv at_ n h rs out fin K) :
    Calls Try.prog 50 #[.int .i64 at_, .int .i64 n, .pointer (some ⟨gh, 0, none⟩), .pointer (some ⟨gs, 0, none⟩), .pointer (some ⟨go, 0, none⟩)] w fun e w' => e = .returned (.tuple #[]) ∧ ∃ vs' vo', LS B w0 w' gh gs go fin.1 vs' vo' fin.2.1.reverse fin.2.2 := by
  have S := Aside0.mk S
  have I := Aside0.mk I
  have ch : w.cell? ⟨gh, 0, none⟩ = some (.int .i64 h) := (blk_cell S.out.bh 0).trans rfl
  have t1 : decide (h < n) = false := decide_eq_false hn
  clear hn
  go_enter Try.func50, Try.ntmps50
  go_wp2_with fail
  go_loopg [7, 8] K (fun kq v7 v8 w' => ∃ (h : Int) (rs : List S59) (out : List S38) (vs vo : Value), Aside0 (LS B w0 w' gh gs go h vs vo rs.reverse out) ∧ Aside0 (PopInv at_ n h rs out fin kq))
  case atStart => exact ⟨h, rs, out, vs, vo, S, I⟩
  case round =>
    clear S I ch t1
    obtain ⟨h, rs, out, vs, vo, S, I⟩ := hrel
    have ch : wr.cell? ⟨gh, 0, none⟩ = some (.int .i64 h) := (blk_cell S.out.bh 0).trans rfl
    by_cases hn : n < h
    · obtain ⟨s, r, rfl⟩ : ∃ s r, rs = s :: r := by
        cases rs with
        | nil => have := I.out.sum; simp [sumM] at this; omega
        | cons s r => exact ⟨s, r, rfl⟩
      have t1 : decide (n < h) = true := decide_eq_true hn
      obtain ⟨g2, c2, e2, _, _, _, _⟩ := Kd.R_form S.out.rs (by simp)
      rw [List.length_reverse, List.length_cons] at e2
      subst e2
      have cs : wr.cell? ⟨gs, 0, none⟩ = some (.slice (some ⟨g2, 0, none⟩) (r.length + 1) c2) := (blk_cell S.out.bs 0).trans rfl
      have fh : wr.frozen? ⟨gh, 0, none⟩ = false := blk_frozen S.out.bh 0
      obtain ⟨ce, hcl, hM, hcc, hfr⟩ := Kd.R_elem S.out.rs z59 (r.length : Int) (by omega) (by omega)
      obtain rfl := k59_openM hM
      have hs : (s :: r).reverse.getD (r.length : Int).toNat z59 = s := by simp
      rw [hs] at hcc
      have d0 : wr.cell? ⟨g2, r.length * 2, none⟩ = some (.int .i64 s.f0) := hcc 0 _ rfl
      have d1 : wr.cell? ⟨g2, r.length * 2 + 1, none⟩ = some (.int .i64 s.f1) := hcc 1 _ rfl
      clear hcl hM hcc hfr hs
      have b1 : 1 ≤ s.f1 := I.out.pos s List.mem_cons_self
      have b2 : h ≤ 1048576 := I.out.hi
      have b3 : s.f1 ≤ h := by
        have := I.out.sum; have := sumM_nonneg r (fun x hx => I.out.pos x (List.mem_cons_of_mem _ hx)); simp only [sumM] at *; omega
      have b4 : r.length < 2000000 := by
        have := sumM_len r (fun x hx => I.out.pos x (List.mem_cons_of_mem _ hx))
        have := I.out.sum
        simp only [sumM] at *; omega
      obtain ⟨G, hG⟩ : ∃ G, G = gk := ⟨gk, rfl⟩
      subst hG
      have b5 : n < h := hn
      clear hn
      by_cases c : h - n < s.f1
      · have t2 : decide (h - n < s.f1) = true := decide_eq_true c
        go_wp2_with fail
        go_quiet (fail)
        go_wp2_with fail
        generalize hkk : h - n = kk
        have k4 := Aside0.mk (show (kk = s.f1 ∧ s.f1 ≤ h - n) ∨ (kk = h - n ∧ h - n < s.f1) from by omega)
        have k1 : 1 ≤ kk := by omega
        have k2 : kk ≤ h - n := by omega
        have k3 : kk ≤ s.f1 := by omega
        clear hkk c t2
        have S := Aside0.mk (S.out.drewN nq)
        generalize wr.drewN nq = wq at S ⊢
        clear ch cs fh d0 d1
        go_loopg [38] kk.toNat (fun jq v38 w2 => ∃ (j : Nat) (vo : Value), v38 = .int .i64 j ∧ Aside0 (j + jq = kk.toNat) ∧ Aside0 (LS B w0 w2 gh gs go h (.slice (some ⟨g2, 0, none⟩) (r.length + 1) c2) vo (s :: r).reverse (out ++ List.replicate j ⟨s.f0, at_⟩)))
        case atStart => exact ⟨0, vo, rfl, ⟨by omega⟩, by simpa using S⟩
        case round =>
          clear S
          obtain ⟨j, vo, rfl, hj, S⟩ := hrel
          obtain ⟨Ao, co, eo⟩ := Kd.R_slice S.out.ro
          subst eo
          obtain ⟨ce, hcl, hM, hcc, hfr⟩ := Kd.R_elem S.out.rs z59 (r.length : Int) (by omega) (by omega)
          obtain rfl := k59_openM hM
          have hs : (s :: r).reverse.getD (r.length : Int).toNat z59 = s := by simp
          rw [hs] at hcc
          have d0 : wr.cell? ⟨g2, r.length * 2, none⟩ = some (.int .i64 s.f0) := hcc 0 _ rfl
          have d1 : wr.cell? ⟨g2, r.length * 2 + 1, none⟩ = some (.int .i64 s.f1) := hcc 1 _ rfl
          have f1 : wr.frozen? ⟨g2, r.length * 2 + 1, none⟩ = false := hfr 1
          clear hcl hM hcc hfr hs
          by_cases hlt : (j : Int) < kk
          · have t2 : decide ((j : Int) < kk) = true := decide_eq_true hlt
            have hlo : (out ++ List.replicate j (⟨s.f0, at_⟩ : S38)).length < 4398046511104 := by
              have := I.out.room; simp; omega
            generalize hol : (out ++ List.replicate j ⟨s.f0, at_⟩ : List S38) = ol at S hlo
            have hol := Aside0.mk hol
            have col : wr.cell? ⟨go, 0, none⟩ = some (.slice Ao ol.length co) := (blk_cell S.out.bo 0).trans (by simp [← hol.out])
            go_wp2_with fail
            refine start_ (n := 10) (S := fun w' => w'.cell? ⟨go, 0, none⟩ = some (.slice Ao ol.length co) ∧ w'.cell? ⟨g2, r.length * 2, none⟩ = some (.int .i64 s.f0)) (ds := [8, 9]) #[false, false, false, false, false, false, false, false, false, false] (by kernel_rfl) rfl rfl ⟨col, d0⟩ (fun hHeld => ?_)
            have S := Aside0.mk S.out.drew
            generalize wr.drew = wd at S hHeld ⊢
            clear col d0 d1 f1
            refine pure_ (i := 1) (N := some 41) (v := ?_) (a' := ?_) #[false, true, false, false, false, false, false, false, false, false] rfl rfl (by kernel_rfl) (fun _ _ _ h => h) (Or.inl ⟨by rfl, ?_⟩) ?_ ?_
            rotate_left
            · intro w'
              go_simp
              with_reducible rfl
            rotate_left
            · simp only [Act.put, List.setIfInBounds_toArray, List.set_cons_zero, List.set_cons_succ, i64_w, i32_w]
              rfl
            refine pure_ (i := 2) (N := some 42) (v := ?_) (a' := ?_) #[false, true, true, false, false, false, false, false, false, false] rfl rfl (by kernel_rfl) (fun _ _ _ h => h) (Or.inl ⟨by rfl, ?_⟩) ?_ ?_
            rotate_left
            · intro w'
              go_simp
              with_reducible rfl
            rotate_left
            · simp only [Act.put, List.setIfInBounds_toArray, List.set_cons_zero, List.set_cons_succ, i64_w, i32_w]
              rfl
            refine pure_ (i := 3) (N := some 43) (v := ?_) (a' := ?_) #[false, true, true, true, false, false, false, false, false, false] rfl rfl (by kernel_rfl) (fun _ _ _ h => h) (Or.inl ⟨by rfl, ?_⟩) ?_ ?_
            rotate_left
            · intro w'
              go_simp
              with_reducible rfl
            rotate_left
            · simp only [Act.put, List.setIfInBounds_toArray, List.set_cons_zero, List.set_cons_succ, i64_w, i32_w]
              rfl
            refine pure_ (i := 5) (N := some 45) (v := ?_) (a' := ?_) #[false, true, true, true, false, true, false, false, false, false] rfl rfl (by kernel_rfl) (fun _ _ _ h => h) (Or.inl ⟨by rfl, ?_⟩) ?_ ?_
            rotate_left
            · intro w'
              go_simp
              with_reducible rfl
            rotate_left
            · simp only [Act.put, List.setIfInBounds_toArray, List.set_cons_zero, List.set_cons_succ, i64_w, i32_w]
              rfl
            refine take_ (i := 0) (N := some 40) (v := ?_) (a' := ?_) #[true, true, true, true, false, true, false, false, false, false] rfl rfl (by kernel_rfl) (fun _ _ _ h => h) (Or.inl ⟨by rfl, ?_⟩) hHeld ?_ ?_
            rotate_left
            · rintro w' ⟨s0, s1⟩
              go_simp
              with_reducible rfl
            rotate_left
            · simp only [Act.put, List.setIfInBounds_toArray, List.set_cons_zero, List.set_cons_succ, i64_w, i32_w]
              rfl
            refine take_ (i := 4) (N := some 44) (v := ?_) (a' := ?_) #[true, true, true, true, true, true, false, false, false, false] rfl rfl (by kernel_rfl) (fun _ _ _ h => h) (Or.inl ⟨by rfl, ?_⟩) hHeld ?_ ?_
            rotate_left
            · rintro w' ⟨s0, s1⟩
              go_simp
              with_reducible rfl
            rotate_left
            · simp only [Act.put, List.setIfInBounds_toArray, List.set_cons_zero, List.set_cons_succ, i64_w, i32_w]
              rfl
            refine pure_ (i := 6) (N := some 46) (v := ?_) (a' := ?_) #[true, true, true, true, true, true, true, false, false, false] rfl rfl (by kernel_rfl) (fun _ _ _ h => h) (Or.inl ⟨by rfl, ?_⟩) ?_ ?_
            rotate_left
            · intro w'
              go_simp
              with_reducible rfl
            rotate_left
            · simp only [Act.put, List.setIfInBounds_toArray, List.set_cons_zero, List.set_cons_succ, i64_w, i32_w]
              rfl
            refine one_ (i := 7) (N := some 47) #[true, true, true, true, true, true, true, true, false, false] rfl rfl (by kernel_rfl) (by decide) (fun K hK => ?_)
            refine value_ (w1 := ?_) (v := ?_) (by rfl) rfl ?_ ?_
            rotate_left 2
            · go_simp
              constructor
              · rfl
              · rfl
            refine hK.out _ _ ⟨(by rw [World.cell?_alloc_lt _ _ _ (World.block_lt_of_cell? _ _ hHeld.1)]; exact hHeld.1), (by rw [World.cell?_alloc_lt _ _ _ (World.block_lt_of_cell? _ _ hHeld.2)]; exact hHeld.2)⟩ (fun hHeld => ?_)
            clear hK K
            refine norm_ (a' := ?_) ?_ ?_
            rotate_left
            · show Act.put _ (some 47) _ = _
              simp only [Act.put, List.setIfInBounds_toArray, List.set_cons_zero, List.set_cons_succ, i64_w, i32_w]
              rfl
            refine last_ (i := 8) (N := some 48) #[true, true, true, true, true, true, true, true, true, false] rfl rfl (by kernel_rfl) (by decide) (fun K hK => ?_)
            refine Kd.R_append_step k38 (w0 := w0) B (by rfl) (.tmp 40) (.tmp 47) 30 38 (.agg #[(.int .i64 0), (.int .i64 0)]) 16 rfl Try.underlying30 info38 rfl (by decide) (by omega) (.slice Ao ol.length co) ol (⟨s.f0, at_⟩ : S38) [.int .i64 s.f0, .int .i64 at_] (fun _ => True) (fun _ => False) rfl rfl (k38_mkM _ _ _ (⟨s.f0, at_⟩ : S38)) (fun _ hk => hk.elim) (fun _ _ => trivial) S.out.ro S.out.below S.out.base (by omega) ?_
            intro v1 w1 hR hb hg _
            obtain ⟨A1, n1, e1⟩ := Kd.R_slice hR
            rw [List.length_append, List.length_singleton] at e1
            subst e1
            have K1 := Aside0.mk (S.out.kept_o hg)
            have S2 := Aside0.mk (S.out.outed hR hb hg)
            clear hR hb hg
            have c1 : w1.cell? ⟨go, 0, none⟩ = some (.slice Ao ol.length co) := (blk_cell K1.out.2.2 0).trans rfl
            have f1 : w1.frozen? ⟨go, 0, none⟩ = false := blk_frozen K1.out.2.2 0
            refine hK.out _ _ ?_
            clear hK K
            refine norm_ (a' := ?_) ?_ ?_
            rotate_left
            · show Act.put _ (some 48) _ = _
              simp only [Act.put, List.setIfInBounds_toArray, List.set_cons_zero, List.set_cons_succ, i64_w, i32_w]
              rfl
            refine last_ (i := 9) (N := none) #[true, true, true, true, true, true, true, true, true, true] rfl rfl (by kernel_rfl) (by decide) (fun K hK => ?_)
            refine skip_ (w1 := ?_) (by rfl) rfl ?_ ?_
            rotate_left
            · go_simp
              rfl
            refine hK.out _ _ ?_
            clear hK K
            refine done_ (by kernel_rfl) ?_

            go_wp2
            go_roundg (gk - 1)
            case measure => have := hj.out; omega
            case rel =>
              refine ⟨j + 1, .slice A1 (ol.length + 1) n1, by go_num, ⟨by have := hj.out; omega⟩, ⟨?_⟩⟩
              have e3 := S2.out
              have hrw : ol ++ [(⟨s.f0, at_⟩ : S38)] = out ++ List.replicate (j + 1) ⟨s.f0, at_⟩ := by rw [← hol.out, List.append_assoc, ← List.replicate_succ']
              rw [hrw] at e3
              exact e3
          · obtain rfl : j = kk.toNat := by have := hj.out; omega
            have t2 : decide (((kk.toNat : Nat) : Int) < kk) = false := decide_eq_false hlt
            clear hlt hj
            have ch : wr.cell? ⟨gh, 0, none⟩ = some (.int .i64 h) := (blk_cell S.out.bh 0).trans rfl
            have fh : wr.frozen? ⟨gh, 0, none⟩ = false := blk_frozen S.out.bh 0
            have S1 := Aside0.mk (S.out.setH (h - kk))
            have S2 := Aside0.mk (S1.out.setMany r.length (by simp) (s.f1 - kk))
            clear d0 d1 f1
            obtain ⟨ce, hcl, hM, hcc, hfr⟩ := Kd.R_elem S1.out.rs z59 (r.length : Int) (by omega) (by omega)
            obtain rfl := k59_openM hM
            have hs : (s :: r).reverse.getD (r.length : Int).toNat z59 = s := by simp
            rw [hs] at hcc
            have d1 : (wr.setCell ⟨gh, 0, none⟩ (.int .i64 (h - kk))).cell? ⟨g2, r.length * 2 + 1, none⟩ = some (.int .i64 s.f1) := hcc 1 _ rfl
            have f1 : (wr.setCell ⟨gh, 0, none⟩ (.int .i64 (h - kk))).frozen? ⟨g2, r.length * 2 + 1, none⟩ = false := hfr 1
            clear hcl hM hcc hfr hs
            have S2' := S2.out
            have hs : (s :: r).reverse.getD r.length z59 = s := by simp
            rw [hs, rev_set] at S2'
            clear hs S2
            have S2 := Aside0.mk S2'
            clear S2'
            obtain ⟨ce, hcl, hM, hcc, hfr⟩ := Kd.R_elem S2.out.rs z59 (r.length : Int) (by omega) (by omega)
            obtain rfl := k59_openM hM
            have hs : ((⟨s.f0, s.f1 - kk⟩ : S59) :: r).reverse.getD (r.length : Int).toNat z59 = ⟨s.f0, s.f1 - kk⟩ := by simp
            rw [hs] at hcc
            have d2 : ((wr.setCell ⟨gh, 0, none⟩ (.int .i64 (h - kk))).setCell ⟨g2, r.length * 2 + 1, none⟩ (.int .i64 (s.f1 - kk))).cell? ⟨g2, r.length * 2 + 1, none⟩ = some (.int .i64 (s.f1 - kk)) := hcc 1 _ rfl
            clear hcl hM hcc hfr hs
            have cs2 : ((wr.setCell ⟨gh, 0, none⟩ (.int .i64 (h - kk))).setCell ⟨g2, r.length * 2 + 1, none⟩ (.int .i64 (s.f1 - kk))).cell? ⟨gs, 0, none⟩ = some (.slice (some ⟨g2, 0, none⟩) (r.length + 1) c2) := (blk_cell S2.out.bs 0).trans rfl
            have fs2 : ((wr.setCell ⟨gh, 0, none⟩ (.int .i64 (h - kk))).setCell ⟨g2, r.length * 2 + 1, none⟩ (.int .i64 (s.f1 - kk))).frozen? ⟨gs, 0, none⟩ = false := blk_frozen S2.out.bs 0
            have hc2 : r.length + 1 ≤ c2 := (Kd.R_reads' S.out.rs).2.1
            have S3 := S2.out.cut (m := r.length) (by simp)
            rw [rev_take] at S3
            have S3 := Aside0.mk S3
            by_cases c : kk = s.f1
            · have t3 : ((s.f1 - kk) == 0) = true := by rw [beq_iff_eq]; omega
              have I2 := Aside0.mk (I.out.popped b5 (by omega))
              rw [← c] at I2
              clear c k4
              go_wp2
              go_roundg (r.length + if n < h - kk then 1 else 0)
              case measure => exact I2.out.2
              case rel => exact ⟨h - kk, r, _, _, _, S3, ⟨I2.out.1⟩⟩
            · have c' : kk = h - n := by have := k4.out; omega
              have t3 : ((s.f1 - kk) == 0) = false := by rw [beq_eq_false_iff_ne]; omega
              have I2 := Aside0.mk (I.out.less b5 (by have := k4.out; omega))
              rw [← c'] at I2
              have c'' := Aside0.mk (show n = h - kk from by omega)
              clear c c' k4
              go_wp2
              go_roundg (r.length + 1)
              case measure => exact I2.out.2
              case rel => exact ⟨n, _, _, _, _, ⟨by rw [c''.out]; rw [← c''.out]; have e3 := S2.out; rw [← c''.out] at e3; exact e3⟩, ⟨I2.out.1⟩⟩
      · have t2 : decide (h - n < s.f1) = false := decide_eq_false c
        go_wp2_with fail
        go_quiet (fail)
        go_wp2_with fail
        generalize hkk : s.f1 = kk
        have k4 := Aside0.mk (show (kk = s.f1 ∧ s.f1 ≤ h - n) ∨ (kk = h - n ∧ h - n < s.f1) from by omega)
        have k1 : 1 ≤ kk := by omega
        have k2 : kk ≤ h - n := by omega
        have k3 : kk ≤ s.f1 := by omega
        clear hkk c t2
        have S := Aside0.mk (S.out.drewN nq)
        generalize wr.drewN nq = wq at S ⊢
        clear ch cs fh d0 d1
        go_loopg [38] kk.toNat (fun jq v38 w2 => ∃ (j : Nat) (vo : Value), v38 = .int .i64 j ∧ Aside0 (j + jq = kk.toNat) ∧ Aside0 (LS B w0 w2 gh gs go h (.slice (some ⟨g2, 0, none⟩) (r.length + 1) c2) vo (s :: r).reverse (out ++ List.replicate j ⟨s.f0, at_⟩)))
        case atStart => exact ⟨0, vo, rfl, ⟨by omega⟩, by simpa using S⟩
        case round =>
          clear S
          obtain ⟨j, vo, rfl, hj, S⟩ := hrel
          obtain ⟨Ao, co, eo⟩ := Kd.R_slice S.out.ro
          subst eo
          obtain ⟨ce, hcl, hM, hcc, hfr⟩ := Kd.R_elem S.out.rs z59 (r.length : Int) (by omega) (by omega)
          obtain rfl := k59_openM hM
          have hs : (s :: r).reverse.getD (r.length : Int).toNat z59 = s := by simp
          rw [hs] at hcc
          have d0 : wr.cell? ⟨g2, r.length * 2, none⟩ = some (.int .i64 s.f0) := hcc 0 _ rfl
          have d1 : wr.cell? ⟨g2, r.length * 2 + 1, none⟩ = some (.int .i64 s.f1) := hcc 1 _ rfl
          have f1 : wr.frozen? ⟨g2, r.length * 2 + 1, none⟩ = false := hfr 1
          clear hcl hM hcc hfr hs
          by_cases hlt : (j : Int) < kk
          · have t2 : decide ((j : Int) < kk) = true := decide_eq_true hlt
            have hlo : (out ++ List.replicate j (⟨s.f0, at_⟩ : S38)).length < 4398046511104 := by
              have := I.out.room; simp; omega
            generalize hol : (out ++ List.replicate j ⟨s.f0, at_⟩ : List S38) = ol at S hlo
            have hol := Aside0.mk hol
            have col : wr.cell? ⟨go, 0, none⟩ = some (.slice Ao ol.length co) := (blk_cell S.out.bo 0).trans (by simp [← hol.out])
            go_wp2_with fail
            refine start_ (n := 10) (S := fun w' => w'.cell? ⟨go, 0, none⟩ = some (.slice Ao ol.length co) ∧ w'.cell? ⟨g2, r.length * 2, none⟩ = some (.int .i64 s.f0)) (ds := [8, 9]) #[false, false, false, false, false, false, false, false, false, false] (by kernel_rfl) rfl rfl ⟨col, d0⟩ (fun hHeld => ?_)
            have S := Aside0.mk S.out.drew
            generalize wr.drew = wd at S hHeld ⊢
            clear col d0 d1 f1
            refine pure_ (i := 1) (N := some 41) (v := ?_) (a' := ?_) #[false, true, false, false, false, false, false, false, false, false] rfl rfl (by kernel_rfl) (fun _ _ _ h => h) (Or.inl ⟨by rfl, ?_⟩) ?_ ?_
            rotate_left
            · intro w'
              go_simp
              with_reducible rfl
            rotate_left
            · simp only [Act.put, List.setIfInBounds_toArray, List.set_cons_zero, List.set_cons_succ, i64_w, i32_w]
              rfl
            refine pure_ (i := 2) (N := some 42) (v := ?_) (a' := ?_) #[false, true, true, false, false, false, false, false, false, false] rfl rfl (by kernel_rfl) (fun _ _ _ h => h) (Or.inl ⟨by rfl, ?_⟩) ?_ ?_
            rotate_left
            · intro w'
              go_simp
              with_reducible rfl
            rotate_left
            · simp only [Act.put, List.setIfInBounds_toArray, List.set_cons_zero, List.set_cons_succ, i64_w, i32_w]
              rfl
            refine pure_ (i := 3) (N := some 43) (v := ?_) (a' := ?_) #[false, true, true, true, false, false, false, false, false, false] rfl rfl (by kernel_rfl) (fun _ _ _ h => h) (Or.inl ⟨by rfl, ?_⟩) ?_ ?_
            rotate_left
            · intro w'
              go_simp
              with_reducible rfl
            rotate_left
            · simp only [Act.put, List.setIfInBounds_toArray, List.set_cons_zero, List.set_cons_succ, i64_w, i32_w]
              rfl
            refine pure_ (i := 5) (N := some 45) (v := ?_) (a' := ?_) #[false, true, true, true, false, true, false, false, false, false] rfl rfl (by kernel_rfl) (fun _ _ _ h => h) (Or.inl ⟨by rfl, ?_⟩) ?_ ?_
            rotate_left
            · intro w'
              go_simp
              with_reducible rfl
            rotate_left
            · simp only [Act.put, List.setIfInBounds_toArray, List.set_cons_zero, List.set_cons_succ, i64_w, i32_w]
              rfl
            refine take_ (i := 0) (N := some 40) (v := ?_) (a' := ?_) #[true, true, true, true, false, true, false, false, false, false] rfl rfl (by kernel_rfl) (fun _ _ _ h => h) (Or.inl ⟨by rfl, ?_⟩) hHeld ?_ ?_
            rotate_left
            · rintro w' ⟨s0, s1⟩
              go_simp
              with_reducible rfl
            rotate_left
            · simp only [Act.put, List.setIfInBounds_toArray, List.set_cons_zero, List.set_cons_succ, i64_w, i32_w]
              rfl
            refine take_ (i := 4) (N := some 44) (v := ?_) (a' := ?_) #[true, true, true, true, true, true, false, false, false, false] rfl rfl (by kernel_rfl) (fun _ _ _ h => h) (Or.inl ⟨by rfl, ?_⟩) hHeld ?_ ?_
            rotate_left
            · rintro w' ⟨s0, s1⟩
              go_simp
              with_reducible rfl
            rotate_left
            · simp only [Act.put, List.setIfInBounds_toArray, List.set_cons_zero, List.set_cons_succ, i64_w, i32_w]
              rfl
            refine pure_ (i := 6) (N := some 46) (v := ?_) (a' := ?_) #[true, true, true, true, true, true, true, false, false, false] rfl rfl (by kernel_rfl) (fun _ _ _ h => h) (Or.inl ⟨by rfl, ?_⟩) ?_ ?_
            rotate_left
            · intro w'
              go_simp
              with_reducible rfl
            rotate_left
            · simp only [Act.put, List.setIfInBounds_toArray, List.set_cons_zero, List.set_cons_succ, i64_w, i32_w]
              rfl
            refine one_ (i := 7) (N := some 47) #[true, true, true, true, true, true, true, true, false, false] rfl rfl (by kernel_rfl) (by decide) (fun K hK => ?_)
            refine value_ (w1 := ?_) (v := ?_) (by rfl) rfl ?_ ?_
            rotate_left 2
            · go_simp
              constructor
              · rfl
              · rfl
            refine hK.out _ _ ⟨(by rw [World.cell?_alloc_lt _ _ _ (World.block_lt_of_cell? _ _ hHeld.1)]; exact hHeld.1), (by rw [World.cell?_alloc_lt _ _ _ (World.block_lt_of_cell? _ _ hHeld.2)]; exact hHeld.2)⟩ (fun hHeld => ?_)
            clear hK K
            refine norm_ (a' := ?_) ?_ ?_
            rotate_left
            · show Act.put _ (some 47) _ = _
              simp only [Act.put, List.setIfInBounds_toArray, List.set_cons_zero, List.set_cons_succ, i64_w, i32_w]
              rfl
            refine last_ (i := 8) (N := some 48) #[true, true, true, true, true, true, true, true, true, false] rfl rfl (by kernel_rfl) (by decide) (fun K hK => ?_)
            refine Kd.R_append_step k38 (w0 := w0) B (by rfl) (.tmp 40) (.tmp 47) 30 38 (.agg #[(.int .i64 0), (.int .i64 0)]) 16 rfl Try.underlying30 info38 rfl (by decide) (by omega) (.slice Ao ol.length co) ol (⟨s.f0, at_⟩ : S38) [.int .i64 s.f0, .int .i64 at_] (fun _ => True) (fun _ => False) rfl rfl (k38_mkM _ _ _ (⟨s.f0, at_⟩ : S38)) (fun _ hk => hk.elim) (fun _ _ => trivial) S.out.ro S.out.below S.out.base (by omega) ?_
            intro v1 w1 hR hb hg _
            obtain ⟨A1, n1, e1⟩ := Kd.R_slice hR
            rw [List.length_append, List.length_singleton] at e1
            subst e1
            have K1 := Aside0.mk (S.out.kept_o hg)
            have S2 := Aside0.mk (S.out.outed hR hb hg)
            clear hR hb hg
            have c1 : w1.cell? ⟨go, 0, none⟩ = some (.slice Ao ol.length co) := (blk_cell K1.out.2.2 0).trans rfl
            have f1 : w1.frozen? ⟨go, 0, none⟩ = false := blk_frozen K1.out.2.2 0
            refine hK.out _ _ ?_
            clear hK K
            refine norm_ (a' := ?_) ?_ ?_
            rotate_left
            · show Act.put _ (some 48) _ = _
              simp only [Act.put, List.setIfInBounds_toArray, List.set_cons_zero, List.set_cons_succ, i64_w, i32_w]
              rfl
            refine last_ (i := 9) (N := none) #[true, true, true, true, true, true, true, true, true, true] rfl rfl (by kernel_rfl) (by decide) (fun K hK => ?_)
            refine skip_ (w1 := ?_) (by rfl) rfl ?_ ?_
            rotate_left
            · go_simp
              rfl
            refine hK.out _ _ ?_
            clear hK K
            refine done_ (by kernel_rfl) ?_

            go_wp2
            go_roundg (gk - 1)
            case measure => have := hj.out; omega
            case rel =>
              refine ⟨j + 1, .slice A1 (ol.length + 1) n1, by go_num, ⟨by have := hj.out; omega⟩, ⟨?_⟩⟩
              have e3 := S2.out
              have hrw : ol ++ [(⟨s.f0, at_⟩ : S38)] = out ++ List.replicate (j + 1) ⟨s.f0, at_⟩ := by rw [← hol.out, List.append_assoc, ← List.replicate_succ']
              rw [hrw] at e3
              exact e3
          · obtain rfl : j = kk.toNat := by have := hj.out; omega
            have t2 : decide (((kk.toNat : Nat) : Int) < kk) = false := decide_eq_false hlt
            clear hlt hj
            have ch : wr.cell? ⟨gh, 0, none⟩ = some (.int .i64 h) := (blk_cell S.out.bh 0).trans rfl
            have fh : wr.frozen? ⟨gh, 0, none⟩ = false := blk_frozen S.out.bh 0
            have S1 := Aside0.mk (S.out.setH (h - kk))
            have S2 := Aside0.mk (S1.out.setMany r.length (by simp) (s.f1 - kk))
            clear d0 d1 f1
            obtain ⟨ce, hcl, hM, hcc, hfr⟩ := Kd.R_elem S1.out.rs z59 (r.length : Int) (by omega) (by omega)
            obtain rfl := k59_openM hM
            have hs : (s :: r).reverse.getD (r.length : Int).toNat z59 = s := by simp
            rw [hs] at hcc
            have d1 : (wr.setCell ⟨gh, 0, none⟩ (.int .i64 (h - kk))).cell? ⟨g2, r.length * 2 + 1, none⟩ = some (.int .i64 s.f1) := hcc 1 _ rfl
            have f1 : (wr.setCell ⟨gh, 0, none⟩ (.int .i64 (h - kk))).frozen? ⟨g2, r.length * 2 + 1, none⟩ = false := hfr 1
            clear hcl hM hcc hfr hs
            have S2' := S2.out
            have hs : (s :: r).reverse.getD r.length z59 = s := by simp
            rw [hs, rev_set] at S2'
            clear hs S2
            have S2 := Aside0.mk S2'
            clear S2'
            obtain ⟨ce, hcl, hM, hcc, hfr⟩ := Kd.R_elem S2.out.rs z59 (r.length : Int) (by omega) (by omega)
            obtain rfl := k59_openM hM
            have hs : ((⟨s.f0, s.f1 - kk⟩ : S59) :: r).reverse.getD (r.length : Int).toNat z59 = ⟨s.f0, s.f1 - kk⟩ := by simp
            rw [hs] at hcc
            have d2 : ((wr.setCell ⟨gh, 0, none⟩ (.int .i64 (h - kk))).setCell ⟨g2, r.length * 2 + 1, none⟩ (.int .i64 (s.f1 - kk))).cell? ⟨g2, r.length * 2 + 1, none⟩ = some (.int .i64 (s.f1 - kk)) := hcc 1 _ rfl
            clear hcl hM hcc hfr hs
            have cs2 : ((wr.setCell ⟨gh, 0, none⟩ (.int .i64 (h - kk))).setCell ⟨g2, r.length * 2 + 1, none⟩ (.int .i64 (s.f1 - kk))).cell? ⟨gs, 0, none⟩ = some (.slice (some ⟨g2, 0, none⟩) (r.length + 1) c2) := (blk_cell S2.out.bs 0).trans rfl
            have fs2 : ((wr.setCell ⟨gh, 0, none⟩ (.int .i64 (h - kk))).setCell ⟨g2, r.length * 2 + 1, none⟩ (.int .i64 (s.f1 - kk))).frozen? ⟨gs, 0, none⟩ = false := blk_frozen S2.out.bs 0
            have hc2 : r.length + 1 ≤ c2 := (Kd.R_reads' S.out.rs).2.1
            have S3 := S2.out.cut (m := r.length) (by simp)
            rw [rev_take] at S3
            have S3 := Aside0.mk S3
            by_cases c : kk = s.f1
            · have t3 : ((s.f1 - kk) == 0) = true := by rw [beq_iff_eq]; omega
              have I2 := Aside0.mk (I.out.popped b5 (by omega))
              rw [← c] at I2
              clear c k4
              go_wp2
              go_roundg (r.length + if n < h - kk then 1 else 0)
              case measure => exact I2.out.2
              case rel => exact ⟨h - kk, r, _, _, _, S3, ⟨I2.out.1⟩⟩
            · have c' : kk = h - n := by have := k4.out; omega
              have t3 : ((s.f1 - kk) == 0) = false := by rw [beq_eq_false_iff_ne]; omega
              have I2 := Aside0.mk (I.out.less b5 (by have := k4.out; omega))
              rw [← c'] at I2
              have c'' := Aside0.mk (show n = h - kk from by omega)
              clear c c' k4
              go_wp2
              go_roundg (r.length + 1)
              case measure => exact I2.out.2
              case rel => exact ⟨n, _, _, _, _, ⟨by rw [c''.out]; rw [← c''.out]; have e3 := S2.out; rw [← c''.out] at e3; exact e3⟩, ⟨I2.out.1⟩⟩
    · have t1 : decide (n < h) = false := decide_eq_false hn
      have hf := I.out.fin_
      rw [popR_done _ _ _ _ _ hn] at hf
      have hf := Aside0.mk hf
      go_wp2
      go_end0
      refine ⟨rfl, vs, vo, ?_⟩
      rw [← hf.out]
      exact S.out
end Go.Proofs.Ytapfdhaohgkjeaa.XP
end
/- steps.Levels. -/
section
namespace Go.Proofs.Ytapfdhaohgkjeaa.XP
open Go.RowKit Go.Proofs.YtapfdhaohgkjeaaW.PrintWords Go.Proofs.YtapfdhaohgkjeaaW.PrintLast Go.Proofs.YtapfdhaohgkjeaaW.PrintMore
attribute [local go_sem] max2_int min2_int max_two min_two
set_option linter.unusedVariables false
set_option linter.unusedSimpArgs false
abbrev LSt : Type := Int × List S59 × List S38
def setSt (at_ n : Int) (st : LSt) : LSt := if st.1 < n then (n, ⟨at_, n - st.1⟩ :: st.2.1, st.2.2) else popR at_ n st.1 st.2.1 st.2.2
def levelsSt (l : List S48) : LSt := l.foldl (fun st s => setSt s.f0 (mn (mx s.f1 0) 1048576) st) (0, [], [])
def levelsOut (l : List S48) : List S38 := (setSt 1099511627776 0 (levelsSt l)).2.2
def steps_Levels.f (l : List S48) : Option (List S38) := if l.length ≤ 1048576 then slices_SortFunc_51__52.f (levelsOut l) else none
structure LInv (j : Nat) (st : LSt) : Prop where
  sum : sumM st.2.1 = st.1
  pos : ∀ s ∈ st.2.1, 1 ≤ s.f1
  hi : st.1 ≤ 1048576
  room : st.2.2.length + st.1.toNat ≤ j * 1048576
theorem popR_inv (at_ n : Int) (h0 : 0 ≤ n) : ∀ (rs : List S59) (h : Int) (out : List S38), sumM rs = h → (∀ s ∈ rs, 1 ≤ s.f1) → n ≤ h →
    sumM (popR at_ n h rs out).2.1 = (popR at_ n h rs out).1 ∧ (∀ s ∈ (popR at_ n h rs out).2.1, 1 ≤ s.f1) ∧ (popR at_ n h rs out).1 = n ∧ (popR at_ n h rs out).2.2.length + (popR at_ n h rs out).1.toNat = out.length + h.toNat
  | [], h, out, hs, hp, hn => by
    simp only [sumM] at hs
    simp only [popR, sumM]
    exact ⟨by omega, hp, by omega, trivial⟩
  | s :: r, h, out, hs, hp, hn => by
    simp only [sumM] at hs
    have hs1 := hp s List.mem_cons_self
    have hr := sumM_nonneg r (fun x hx => hp x (List.mem_cons_of_mem _ hx))
    by_cases c : n < h
    · by_cases c2 : s.f1 ≤ h - n
      · rw [popR, if_pos c, if_pos c2]
        have ih := popR_inv at_ n h0 r (h - s.f1) (out ++ List.replicate s.f1.toNat ⟨s.f0, at_⟩) (by omega) (fun x hx => hp x (List.mem_cons_of_mem _ hx)) (by omega)
        refine ⟨ih.1, ih.2.1, ih.2.2.1, ih.2.2.2.trans ?_⟩
        rw [List.length_append, List.length_replicate]; omega
      · rw [popR, if_pos c, if_neg c2]
        refine ⟨by simp only [sumM]; omega, fun x hx => ?_, rfl, ?_⟩
        · rcases List.mem_cons.1 hx with rfl | hx
          · show 1 ≤ s.f1 - (h - n); omega
          · exact hp x (List.mem_cons_of_mem _ hx)
        · simp only [List.length_append, List.length_replicate]; omega
    · rw [popR_done _ _ _ _ _ c]
      refine ⟨by simp only [sumM]; omega, hp, by show h = n; omega, rfl⟩
theorem LInv.set {j : Nat} {st : LSt} (I : LInv j st) (at_ n : Int) (h0 : 0 ≤ n) (hn : n ≤ 1048576) : LInv (j + 1) (setSt at_ n st) := by
  obtain ⟨h, rs, out⟩ := st
  have hs := I.sum
  have hp := I.pos
  have hr := I.room
  have hnn := sumM_nonneg rs hp
  simp only at hs hp hr
  by_cases c : h < n
  · have e : setSt at_ n (h, rs, out) = (n, ⟨at_, n - h⟩ :: rs, out) := if_pos c
    rw [e]
    refine ⟨by simp only [sumM]; omega, fun x hx => ?_, hn, ?_⟩
    · rcases List.mem_cons.1 hx with rfl | hx
      · show 1 ≤ n - h; omega
      · exact hp x hx
    · show out.length + n.toNat ≤ (j + 1) * 1048576; omega
  · have e : setSt at_ n (h, rs, out) = popR at_ n h rs out := if_neg c
    rw [e]
    have := popR_inv at_ n h0 rs h out hs hp (by omega)
    have h4 := this.2.2.2
    have h3 := this.2.2.1
    exact ⟨this.1, this.2.1, by omega, by omega⟩
theorem set_any (B : Nat) (w0 w : World) (gh gs go : Nat) (at_ n : Int) (vs vo : Value) (st : LSt) (j : Nat) (S : LS B w0 w gh gs go st.1 vs vo st.2.1.reverse st.2.2) (I : LInv j st) (hj : j ≤ 1048577) (h0 : 0 ≤ n) (hm : n ≤ 1048576) :
    Calls Try.prog 50 #[.int .i64 at_, .int .i64 n, .pointer (some ⟨gh, 0, none⟩), .pointer (some ⟨gs, 0, none⟩), .pointer (some ⟨go, 0, none⟩)] w fun e w' => e = .returned (.tuple #[]) ∧ ∃ vs' vo', LS B w0 w' gh gs go (setSt at_ n st).1 vs' vo' (setSt at_ n st).2.1.reverse (setSt at_ n st).2.2 := by
  obtain ⟨h, rs, out⟩ := st
  have hs := I.sum
  have hp := I.pos
  have hr := I.room
  have hnn := sumM_nonneg rs hp
  have hle := sumM_len rs hp
  simp only at hs hp hr S
  by_cases c : h < n
  · have e : setSt at_ n (h, rs, out) = (n, ⟨at_, n - h⟩ :: rs, out) := if_pos c
    rw [e]
    refine (set_push B w0 w gh gs go at_ n h vs vo rs.reverse out S c (by omega) hm (by rw [List.length_reverse]; omega)).mono ?_
    rintro e w' ⟨rfl, vs', hS⟩
    exact ⟨rfl, vs', vo, by simpa using hS⟩
  · have e : setSt at_ n (h, rs, out) = popR at_ n h rs out := if_neg c
    rw [e]
    exact set_pop B w0 w gh gs go at_ n h vs vo rs out S c h0 (popR at_ n h rs out) (rs.length + if n < h then 1 else 0) ⟨hs, hp, I.hi, by omega, rfl, rfl⟩
theorem levels_take (l : List S48) (k : Nat) (hk : k < l.length) : levelsSt (l.take (k + 1)) = setSt (l.getD k z48).f0 (mn (mx (l.getD k z48).f1 0) 1048576) (levelsSt (l.take k)) := by
  unfold levelsSt
  rw [List.take_succ_eq_append_getElem hk, List.foldl_append, List.foldl_cons, List.foldl_nil, List.getD_eq_getElem?_getD, List.getElem?_eq_getElem hk]
  rfl
theorem clamp (x : Int) : 0 ≤ mn (mx x 0) 1048576 ∧ mn (mx x 0) 1048576 ≤ 1048576 := by unfold mn mx; split <;> split <;> omega
set_option maxHeartbeats 400000 in
set_option maxRecDepth 100000 in
theorem steps_Levels.calls (A0 : Option Addr) (c0 : Nat) (l0 : List (S48)) (r : List (S38)) (w : World) (hr0 : Kd.C k48 w A0 l0.length l0) (hc0 : l0.length ≤ c0) (h : steps_Levels.f l0 = some r) :
    Calls Try.prog 20 #[.slice A0 l0.length c0] w fun e w' => ∃ v0_ : Value, e = .returned (v0_) ∧ Kd.R k38 38 w' w.heap.size (fun _ => True) v0_ r ∧ Below w.heap.size w w' := by
  have hu48 := Try.underlying48
  have HR := Aside0.mk hr0
  have HC := Aside0.mk hc0
  unfold steps_Levels.f at h
  have hlen : l0.length ≤ 1048576 := by
    by_cases c : l0.length ≤ 1048576
    · exact c
    · rw [if_neg c] at h; cases h
  rw [if_pos hlen] at h
  have H := Aside0.mk h
  clear h hr0 hc0
  go_enter Try.func20, Try.ntmps20
  go_wp2_with fail
  have S0 : LS w.heap.size w (((w.alloc (.cells #[.slice none 0 0] 30)).alloc (.cells #[.slice none 0 0] 57)).alloc (.cells #[.int .i64 0] 3)) (w.heap.size + 1 + 1) (w.heap.size + 1) w.heap.size 0 (.slice none 0 0) (.slice none 0 0) [] [] := by
    have s1 : (w.alloc (.cells #[.slice none 0 0] 30)).heap.size = w.heap.size + 1 := World.size_alloc _ _
    have s2 : ((w.alloc (.cells #[.slice none 0 0] 30)).alloc (.cells #[.slice none 0 0] 57)).heap.size = w.heap.size + 1 + 1 := by rw [World.size_alloc, s1]
    refine ⟨below_alloc (below_alloc (below_alloc (Below.refl _ _) _) _) _, by simp; omega, by omega, by omega, Nat.le_refl _, ?_, ?_, ?_, Kd.R_nil _ _ _ _ _, Kd.R_nil _ _ _ _ _⟩
    · have := blk_new ((w.alloc (.cells #[.slice none 0 0] 30)).alloc (.cells #[.slice none 0 0] 57)) (.cells #[.int .i64 0] 3)
      rw [s2] at this; exact this
    · have := blk_new (w.alloc (.cells #[.slice none 0 0] 30)) (.cells #[.slice none 0 0] 57)
      rw [s1] at this; exact blk_alloc this _
    · exact blk_alloc (blk_alloc (blk_new w _) _) _
  generalize hWW : ((w.alloc (.cells #[.slice none 0 0] 30)).alloc (.cells #[.slice none 0 0] 57)).alloc (.cells #[.int .i64 0] 3) = W at S0 ⊢
  clear hWW
  have S0 := Aside0.mk S0
  obtain ⟨B, hB⟩ : ∃ B, B = w.heap.size := ⟨_, rfl⟩
  rw [← hB] at S0 ⊢
  have HB := Aside0.mk hB
  clear hB
  go_loopg [8, 12] l0.length (fun kq v8 v12 w2 => ∃ (k : Nat) (vs vo : Value), v12 = .int .i64 k ∧ Aside0 (k + kq = l0.length) ∧ Aside0 (LS B w w2 (B + 1 + 1) (B + 1) B (levelsSt (l0.take k)).1 vs vo (levelsSt (l0.take k)).2.1.reverse (levelsSt (l0.take k)).2.2) ∧ Aside0 (LInv k (levelsSt (l0.take k))))
  case atStart => exact ⟨0, _, _, rfl, ⟨by omega⟩, S0, ⟨(⟨rfl, fun s hs => (by cases hs), by decide, by decide⟩ : LInv 0 (0, [], []))⟩⟩
  case round =>
    clear S0
    obtain ⟨k, vs, vo, rfl, hk, S, I⟩ := hrel
    by_cases hlt : k < l0.length
    · have t1 : decide (k < l0.length) = true := decide_eq_true hlt
      obtain ⟨ad, rfl, hx0, hx1⟩ := at_T48 HR.out (k : Int) (by omega) (by omega)
      have hx0 : wr.cell? (ad.add (k * 2)) = some (.int .i64 (rd_T48 l0 k).f0) := by
        have := (S.out.below.cell (HB.out ▸ World.block_lt_of_cell? w _ hx0)).trans hx0
        simpa using this
      have hx1 : wr.cell? ⟨(ad.add (k * 2)).block, (ad.add (k * 2)).off + 1, none⟩ = some (.int .i64 (rd_T48 l0 k).f1) := by
        have := (S.out.below.cell (HB.out ▸ World.block_lt_of_cell? w _ hx1)).trans hx1
        simpa using this
      obtain ⟨m1, hm1⟩ : ∃ m1, mx (rd_T48 l0 k).f1 0 = m1 := ⟨_, rfl⟩
      have hm1_ : (if (rd_T48 l0 k).f1 < 0 then 0 else (rd_T48 l0 k).f1) = m1 := hm1
      obtain ⟨m2, hm2⟩ : ∃ m2, mn m1 1048576 = m2 := ⟨_, rfl⟩
      have hm2_ : (if 1048576 < m1 then 1048576 else m1) = m2 := hm2
      have b1 : 0 ≤ m2 ∧ m2 ≤ 1048576 := by rw [← hm2, ← hm1]; exact clamp _
      have b2 := b1.1
      have b3 := b1.2
      have hL := levels_take l0 k hlt
      rw [show l0.getD k z48 = rd_T48 l0 k from by unfold rd_T48; rw [Int.toNat_natCast], hm1, hm2] at hL
      have HL := Aside0.mk hL
      have HI := Aside0.mk (I.out.set (rd_T48 l0 k).f0 m2 b2 b3)
      clear hL b1 hm1 hm2
      go_wp2_with (go_at_call 50; refine (set_any B w _ (B + 1 + 1) (B + 1) B (rd_T48 l0 k).f0 m2 vs vo (levelsSt (l0.take k)) k (S.out.alloc (.cells #[.int .i64 (rd_T48 l0 k).f0, .int .i64 (rd_T48 l0 k).f1] 48)) I.out (by omega) b2 b3).mono ?_; rintro e w' ⟨rfl, vs', vo', S2⟩; have S2 := Aside0.mk S2; clear S I hx0 hx1)
      go_roundg (gk - 1)
      case measure => have := hk.out; omega
      case rel =>
        rw [← HL.out] at S2 HI
        exact ⟨k + 1, vs', vo', by go_num, ⟨by have := hk.out; omega⟩, S2, HI⟩
    · have t1 : decide (k < l0.length) = false := decide_eq_false hlt
      obtain rfl : k = l0.length := by have := hk.out; omega
      rw [List.take_length] at S I
      have HI := I.out.set 1099511627776 0 (by decide) (by decide)
      go_wp2_with fail
      refine (set_any B w _ (B + 1 + 1) (B + 1) B 1099511627776 0 vs vo (levelsSt l0) l0.length S.out I.out (by omega) (by decide) (by decide)).mono ?_
      rintro e w' ⟨rfl, vs', vo', S2⟩
      have S2 := Aside0.mk S2
      obtain ⟨Ao, co, eo⟩ := Kd.R_slice S2.out.ro
      subst eo
      clear S I HI
      have hO : (setSt 1099511627776 0 (levelsSt l0)).2.2 = levelsOut l0 := rfl
      rw [hO] at S2
      clear hO
      have cB : w'.cell? ⟨B, 0, none⟩ = some (.slice Ao (levelsOut l0).length co) := (blk_cell S2.out.bo 0).trans rfl
      have hb0 := S2.out.below
      have hr0 := Kd.R_tight rfl S2.out.ro
      rw [HB.out] at hb0 hr0
      have hcon := Aside0.mk (slices_SortFunc_51__52.calls _ _ _ r w w' hb0 hr0 H.out)
      clear hb0 hr0
      go_wp2_with fail
      refine hcon.out.mono ?_
      rintro e w2 ⟨rfl, hR, hb, hkp⟩
      have hbo : w2.heap[B]? = some (.cells #[.slice Ao (levelsOut l0).length co] 30 (0, 0)) := by
        refine (hkp.2 B (blk_lt S2.out.bo) ?_).trans S2.out.bo
        intro e
        obtain ⟨cells, hc⟩ := Kd.R_typed S2.out.ro B e.symm
        exact blk_ne S2.out.bo hc (by decide) rfl
      have cB2 : w2.cell? ⟨B, 0, none⟩ = some (.slice Ao (levelsOut l0).length co) := (blk_cell hbo 0).trans rfl
      have hR := Aside0.mk (Kd.R_mono hR (ok' := fun _ => True) (fun _ _ => trivial))
      have hb := Aside0.mk hb
      clear hbo hkp cB hcon S2
      go_wp2
      go_ret
      exact ⟨_, rfl, hR.out, hb.out⟩
end Go.Proofs.Ytapfdhaohgkjeaa.XP
end
/- What came in, as data, in the words of the printed contracts. -/
section
namespace Go.Proofs.Ytapfdhaohgkjeaa.OpenKit
open Go.RowKit Go.ChangeShapes Go.WideShapes Go.Deep Go.Proofs.YtapfdhaohgkjeaaW.PrintWords
section
variable {H : Type} {enc : TypeId × Value → H} {P : Program} {W : World}
/-- Whatever reads as a datum of type t is held as a value of this kind. -/
def Opens (enc : TypeId × Value → H) (P : Program) (W : World) (t : TypeId) {α : Type} (d : Kd α) (ok : α → Prop) : Prop :=
  ∀ (fuel : Nat) (cs : List Value) (x : DataW H × List MemPlace), DataW.trod enc P W 0 (fun _ => true) true fuel t cs = some x → ∃ a, ok a ∧ d.K W a cs
theorem opens_int {t : TypeId} {k : IntKind} (ht : P.underlying t = some (.int k)) : Opens enc P W t (Kd.int k) (fun n => (Lit.int k n).wf = true) := by
  intro fuel cs x h
  obtain ⟨n, rfl, _, hw⟩ := DataW.trod_int ht h
  exact ⟨n, hw, rfl⟩
theorem opens_struct2 {t : TypeId} {fs : Array Field} {f0 f1 : Field} {α β : Type} {d0 : Kd α} {d1 : Kd β} {ok0 : α → Prop} {ok1 : β → Prop} (ht : P.underlying t = some (.struct fs)) (hf : fs = #[f0, f1])
    (h0 : Opens enc P W f0.type d0 ok0) (h1 : Opens enc P W f1.type d1 ok1) (o0 : f0.offset = 0) (o1 : f1.offset = d0.sz) (c0 : P.cellsOf f0.type = d0.sz) (c1 : P.cellsOf f1.type = d1.sz) (ct : P.cellsOf t = d0.sz + d1.sz) :
    Opens enc P W t (Kd.pair d0 d1) (fun x => ok0 x.1 ∧ ok1 x.2) := by
  intro fuel cs x h
  subst hf
  obtain ⟨xs, n, _, _, hl, hxs, hx⟩ := DataW.trod_struct ht h
  have hxs : xs.length = 2 := hxs
  have e0 := hx 0 f0 rfl
  have e1 := hx 1 f1 rfl
  rw [List.getElem?_eq_getElem (by omega)] at e0 e1
  rw [o0, List.drop_zero, c0] at e0
  rw [o1, c1] at e1
  obtain ⟨a, ha, ka⟩ := h0 _ _ _ e0
  obtain ⟨b, hb, kb⟩ := h1 _ _ _ e1
  have ec : (cs.drop d0.sz).take d1.sz = cs.drop d0.sz := List.take_of_length_le (by rw [List.length_drop, hl, ct]; omega)
  rw [ec] at kb
  exact ⟨(a, b), ⟨ha, hb⟩, _, _, (List.take_append_drop _ _).symm, ka, kb⟩
theorem Opens.iso {t : TypeId} {α β : Type} {d : Kd α} {ok : α → Prop} (h : Opens enc P W t d ok) (f : β → α) (g : α → β) (hfg : ∀ a, f (g a) = a) {ok' : β → Prop} (hok : ∀ a, ok a → ok' (g a)) : Opens enc P W t (Kd.iso d f) ok' := by
  intro fuel cs x hx
  obtain ⟨a, ha, ka⟩ := h fuel cs x hx
  exact ⟨g a, hok a ha, by show d.K W (f (g a)) cs; rw [hfg]; exact ka⟩
theorem choose_list {α : Type} {Q : Nat → α → Prop} : ∀ n : Nat, (∀ i, i < n → ∃ a, Q i a) → ∃ l : List α, l.length = n ∧ ∀ (i : Nat) (a : α), l[i]? = some a → Q i a
  | 0, _ => ⟨[], rfl, fun i a h => by simp at h⟩
  | n + 1, h => by
    obtain ⟨l, hl, hq⟩ := choose_list n (fun i hi => h i (by omega))
    obtain ⟨a, ha⟩ := h n (by omega)
    refine ⟨l ++ [a], by simp [hl], fun i b hb => ?_⟩
    rcases Nat.lt_or_ge i l.length with hi | hi
    · rw [List.getElem?_append_left hi] at hb; exact hq i b hb
    · have : i = l.length := by have := (List.getElem?_eq_some_iff.1 hb).1; simp at this; omega
      subst this
      have : a = b := by simpa using hb
      subst this
      rw [hl]; exact ha
/-- A slice. -/
theorem opens_row {t e : TypeId} {α : Type} {d : Kd α} {ok : α → Prop} (ht : P.underlying t = some (.slice e)) (hd : Opens enc P W e d ok) (hsz : P.cellsOf e = d.sz) {fuel : Nat} {A : Option Addr} {len cap : Nat} {x : DataW H × List MemPlace}
    (h : DataW.trod enc P W 0 (fun _ => true) true fuel t [.slice A len cap] = some x) : ∃ l : List α, l.length = len ∧ len ≤ cap ∧ cap ≤ maxLen ∧ (∀ a ∈ l, ok a) ∧ Kd.C d W A l.length l := by
  rcases open_slice ht h with ⟨hcs, _⟩ | ⟨a, len', cap', m, n, D, Pl, hcs, hb, hl, hm, hmm, hx, hi⟩
  · simp at hcs
    obtain ⟨rfl, rfl, rfl⟩ := hcs
    exact ⟨[], rfl, Nat.le_refl _, Nat.zero_le _, (fun a ha => by cases ha), Kd.C_nil d W⟩
  · simp at hcs
    obtain ⟨rfl, rfl, rfl⟩ := hcs
    have hlm : len ≤ m := by rw [hmm]; simp; omega
    obtain ⟨l, hll, hq⟩ := choose_list (Q := fun i b => ok b ∧ ∃ c, c.length = d.sz ∧ d.K W b c ∧ ∀ j u, c[j]? = some u → W.cell? (a.add (i * d.sz + j)) = some u) len (fun i hil => by
      obtain ⟨cs', hc, ht'⟩ := hi i (by omega)
      obtain ⟨b, hb', kb⟩ := hd _ _ _ ht'
      obtain ⟨_, hcl, hat⟩ := World.cells?_some hc
      rw [hsz] at hcl
      refine ⟨b, hb', cs', hcl, kb, fun j u hj => ?_⟩
      have hjl : j < d.sz := by have := (List.getElem?_eq_some_iff.1 hj).1; omega
      have := hat j (by rw [hsz]; exact hjl)
      rw [hsz, Go.Deep.add_add] at this
      exact this.trans hj)
    refine ⟨l, hll, hl, hm, fun b hb' => ?_, by rw [hll]; exact ⟨hll, Nat.le_trans hl hm, fun _ => ⟨a, rfl, fun j p hj => (hq j p hj).2⟩⟩⟩
    obtain ⟨i, hi', rfl⟩ := List.getElem_of_mem hb'
    exact (hq i _ (List.getElem?_eq_getElem hi')).1
end
end Go.Proofs.Ytapfdhaohgkjeaa.OpenKit
end
/- The kinds of what comes in. -/
section
namespace Go.Proofs.Ytapfdhaohgkjeaa.XP
open Go.RowKit Go.Proofs.YtapfdhaohgkjeaaW.PrintWords Go.Proofs.Ytapfdhaohgkjeaa.OpenKit
def I64 (n : Int) : Prop := -9223372036854775808 ≤ n ∧ n ≤ 9223372036854775807
theorem i64_of {n : Int} (h : (Lit.int .i64 n).wf = true) : I64 n := by
  simp [Lit.wf, IntKind.min, IntKind.max, IntKind.bits, IntKind.signed] at h
  unfold I64
  omega
variable {H : Type} {enc : TypeId × Value → H} {W : World}
theorem opens3 : Opens enc Try.prog W 3 (Kd.int .i64) I64 := fun f c x h => by
  obtain ⟨a, ha, hk⟩ := opens_int Try.underlying3 f c x h
  exact ⟨a, i64_of ha, hk⟩
def ok48 (s : S48) : Prop := I64 s.f0 ∧ I64 s.f1
def ok38 (s : S38) : Prop := I64 s.f0 ∧ I64 s.f1
def ok40 (s : S40) : Prop := ok38 s.f0 ∧ I64 s.f1
theorem opens48 : Opens enc Try.prog W 48 k48 ok48 :=
  (opens_struct2 Try.underlying48 rfl opens3 opens3 rfl rfl (by kernel_rfl) (by kernel_rfl) (by kernel_rfl)).iso (fun x : S48 => (x.f0, x.f1)) (fun a => ⟨a.1, a.2⟩) (fun _ => rfl) (fun _ h => h)
theorem opens38 : Opens enc Try.prog W 38 k38 ok38 :=
  (opens_struct2 Try.underlying38 rfl opens3 opens3 rfl rfl (by kernel_rfl) (by kernel_rfl) (by kernel_rfl)).iso (fun x : S38 => (x.f0, x.f1)) (fun a => ⟨a.1, a.2⟩) (fun _ => rfl) (fun _ h => h)
theorem opens40 : Opens enc Try.prog W 40 k40 ok40 :=
  (opens_struct2 Try.underlying40 rfl opens38 opens3 rfl rfl (by kernel_rfl) (by kernel_rfl) (by kernel_rfl)).iso (fun x : S40 => (x.f0, x.f1)) (fun a => ⟨a.1, a.2⟩) (fun _ => rfl) (fun _ h => h)
end Go.Proofs.Ytapfdhaohgkjeaa.XP
end
section
namespace Go.Proofs.Ytapfdhaohgkjeaa.XP
open Go.RowKit Go.Proofs.YtapfdhaohgkjeaaW.PrintWords Go.Proofs.YtapfdhaohgkjeaaW.PrintLast Go.Proofs.YtapfdhaohgkjeaaW.PrintMore
attribute [local go_sem high] eqA38
def bitemporalref01_Compare.f (a0_0 : Int) (a0_1 : Int) (a1_0 : Int) (a1_1 : Int) : Option (Int) := if (a0_0 == a1_0 && (a0_1 == a1_1)) = true then (some 0) else (if a0_0 < a1_0 then (some (-1)) else (if a0_0 = a1_0 then (if a0_1 < a1_1 then (some (-1)) else (some 1)) else (some 1)))
set_option maxHeartbeats 4000000 in
set_option maxRecDepth 100000 in
theorem bitemporalref01_Compare.calls (a0_0 : Int) (a0_1 : Int) (a1_0 : Int) (a1_1 : Int) (r : Int) (w : World) (h : bitemporalref01_Compare.f a0_0 a0_1 a1_0 a1_1 = some r) :
    Calls Try.prog 23 #[.agg #[.int .i64 a0_0, .int .i64 a0_1], .agg #[.int .i64 a1_0, .int .i64 a1_1]] w fun e w' => e = .returned (.int .i64 r) ∧ Below w.heap.size w w' := by
  have hu38 := Try.underlying38
  have e2 : a0_0 = a1_0 → a0_1 = a1_1 → r = 0 := fun p q => by subst p q; simpa [bitemporalref01_Compare.f] using h.symm
  have e3 : a0_0 = a1_0 → a0_1 < a1_1 → r = -1 := fun p q => by
    subst p; have : a0_1 ≠ a1_1 := by omega
    simpa [bitemporalref01_Compare.f, this, q] using h.symm
  have e4 : a0_0 = a1_0 → a1_1 < a0_1 → r = 1 := fun p q => by
    subst p; have : a0_1 ≠ a1_1 := by omega
    have q' : ¬ a0_1 < a1_1 := by omega
    simpa [bitemporalref01_Compare.f, this, q'] using h.symm
  have e5 : a0_0 < a1_0 → r = -1 := fun p => by
    have : a0_0 ≠ a1_0 := by omega
    simpa [bitemporalref01_Compare.f, this, p] using h.symm
  have e6 : a1_0 < a0_0 → r = 1 := fun p => by
    have : a0_0 ≠ a1_0 := by omega
    have q : ¬ a0_0 < a1_0 := by omega
    simpa [bitemporalref01_Compare.f, this, q] using h.symm
  clear h
  rcases Int.lt_trichotomy a0_0 a1_0 with p | p | p
  · obtain rfl := e5 p
    clear e2 e3 e4 e5 e6
    have f1 : (a0_0 == a1_0) = false := beq_eq_false_iff_ne.mpr (by omega)
    have f2 : decide (a0_0 < a1_0) = true := decide_eq_true p
    go_enter Try.func23, Try.ntmps23
    go_wp2
    go_ret
    exact ⟨rfl, below_alloc (below_alloc (Below.refl _ _) _) _⟩
  · subst p
    rcases Int.lt_trichotomy a0_1 a1_1 with q | q | q
    · obtain rfl := e3 rfl q
      clear e2 e3 e4 e5 e6
      have f1 : (a0_1 == a1_1) = false := beq_eq_false_iff_ne.mpr (by omega)
      have f2 : decide (a0_1 < a1_1) = true := decide_eq_true q
      go_enter Try.func23, Try.ntmps23
      go_wp2
      go_ret
      exact ⟨rfl, below_alloc (below_alloc (Below.refl _ _) _) _⟩
    · subst q
      obtain rfl := e2 rfl rfl
      clear e2 e3 e4 e5 e6
      go_enter Try.func23, Try.ntmps23
      go_wp2
      go_ret
      exact ⟨rfl, below_alloc (below_alloc (Below.refl _ _) _) _⟩
    · obtain rfl := e4 rfl q
      clear e2 e3 e4 e5 e6
      have f1 : (a0_1 == a1_1) = false := beq_eq_false_iff_ne.mpr (by omega)
      have f2 : decide (a0_1 < a1_1) = false := decide_eq_false (by omega)
      go_enter Try.func23, Try.ntmps23
      go_wp2
      go_ret
      exact ⟨rfl, below_alloc (below_alloc (Below.refl _ _) _) _⟩
  · obtain rfl := e6 p
    clear e2 e3 e4 e5 e6
    have f1 : (a0_0 == a1_0) = false := beq_eq_false_iff_ne.mpr (by omega)
    have f2 : decide (a0_0 < a1_0) = false := decide_eq_false (by omega)
    go_enter Try.func23, Try.ntmps23
    go_wp2
    go_ret
    exact ⟨rfl, below_alloc (below_alloc (Below.refl _ _) _) _⟩
end Go.Proofs.Ytapfdhaohgkjeaa.XP
end

/- Small facts on rows of the call's own, shared by this session's contracts. -/
import Derived.Test.YtihaddejjgaepaaGx0
import Derived.Sort.Grow
namespace Go.Proofs.Ytihaddejjgaepaa.G
set_option linter.unusedVariables false
set_option linter.unusedSimpArgs false
open Go.RowKit Go.Proofs.YtihaddejjgaepaaW.PrintWords Go.Proofs.YtihaddejjgaepaaW.PrintLast Go.Proofs.YtihaddejjgaepaaW.PrintMore

section
variable {α : Type}
/-- A row of one-cell elements of the call's own: its form. -/
theorem hb_form {enc : α → Value} {h1 : ∀ x, (enc x).oneCell' = true} {e : Nat} {w : World} {base : Nat} {ok : Nat → Prop} {v : Value} {xs : List α} (h : (Kd.scalar enc h1).R e w base ok v xs) :
    (v = .slice none 0 0 ∧ xs = []) ∨ ∃ g cap cur, v = .slice (some ⟨g, 0, none⟩) xs.length cap ∧ base ≤ g ∧ g < w.heap.size ∧ ok g ∧ w.heap[g]? = some (.cells cur e (0, 0)) ∧ xs.length ≤ cap ∧ cap ≤ maxLen ∧ cur.size = cap ∧ cur.toList.take xs.length = xs.map enc := by
  have ho := Kd.own_of_R h
  rcases ho.2 with ⟨hv, hn⟩ | ⟨g, cap, cur, hv, hb, hh, hn, hm, hs, ht⟩
  · exact .inl ⟨hv, List.eq_nil_of_length_eq_zero hn⟩
  · exact .inr ⟨g, cap, cur, hv, hb, (Array.getElem?_eq_some_iff.1 hh).1, h.1 g (by rw [hv]; rfl), hh, hn, hm, by simpa using hs, by simpa [encs] using ht⟩

theorem hb_mk {enc : α → Value} {h1 : ∀ x, (enc x).oneCell' = true} {e : Nat} {w : World} {base : Nat} {ok : Nat → Prop} {g cap : Nat} {cur : Array Value} {xs : List α} (hb : base ≤ g) (hok : ok g)
    (hh : w.heap[g]? = some (.cells cur e (0, 0))) (hn : xs.length ≤ cap) (hm : cap ≤ maxLen) (hs : cur.size = cap) (ht : cur.toList.take xs.length = xs.map enc) :
    (Kd.scalar enc h1).R e w base ok (.slice (some ⟨g, 0, none⟩) xs.length cap) xs :=
  Kd.R_of_own ⟨by simp [encs], .inr ⟨g, cap, cur, rfl, hb, hh, hn, hm, by simpa using hs, by simpa [encs] using ht⟩⟩ (fun k hk => by
    have : g = k := by simpa [Value.ownBlock] using hk
    exact this ▸ hok)

end
section
variable {α : Type} [Inhabited α]

theorem hb_put_heap (enc : α → Value) (w : World) (g : Nat) (d : Array α) (cur : Array Value) (e : TypeId) (h : w.heap[g]? = some (.cells cur e (0, 0))) :
    (Sort.putRow enc w g 0 d).heap[g]? = some (.cells (Sort.putCells enc 0 d cur) e (0, 0)) := by
  simp [Sort.putRow, Sort.mapBlock, Array.getElem?_modify, h, Sort.onCells]

theorem hb_put_far (enc : α → Value) (w : World) (g k : Nat) (d : Array α) (hk : k ≠ g) : (Sort.putRow enc w g 0 d).heap[k]? = w.heap[k]? := by
  simp [Sort.putRow, Sort.mapBlock, Array.getElem?_modify, Ne.symm hk]

theorem hb_cells_size (enc : α → Value) (d : Array α) (cur : Array Value) : (Sort.putCells enc 0 d cur).size = cur.size := by simp [Sort.putCells]

theorem hb_cells_take (enc : α → Value) (d : Array α) (cur : Array Value) (m : Nat) (hm : m ≤ d.size) (hd : d.size ≤ cur.size) :
    (Sort.putCells enc 0 d cur).toList.take m = (d.toList.take m).map enc := by
  apply List.ext_getElem?
  intro k
  rw [List.getElem?_take, List.getElem?_map, List.getElem?_take]
  by_cases hk : k < m
  · rw [if_pos hk, if_pos hk]
    have h1 : k < cur.size := by omega
    have h2 : k < d.size := by omega
    simp [Sort.putCells, Array.getElem?_mapIdx, h1, h2]
  · rw [if_neg hk, if_neg hk]; rfl

/-- The row lies in the words of the sort's contract. -/
theorem hb_holds {enc : α → Value} {w : World} {g : Nat} {cur : Array Value} {e : TypeId} {xs : List α} (hh : w.heap[g]? = some (.cells cur e (0, 0))) (ht : cur.toList.take xs.length = xs.map enc) : Sort.Holds enc w g 0 xs.toArray := by
  intro j hj
  have hj' : j < xs.length := by simpa using hj
  refine ⟨?_, ?_⟩
  · rw [Nat.zero_add, cell_of_row w g j cur e (0, 0) hh, ← Array.getElem?_toList]
    have := congrArg (fun l => l[j]?) ht
    simp only [List.getElem?_take, hj', if_true, List.getElem?_map] at this
    rw [this, List.getElem?_eq_getElem hj']
    simp [hj']
  · simp [World.frozen?, hh]

/-- What the sort and its kin leave: the row written over, draws, new blocks. -/
theorem hb_after {enc : α → Value} {h1 : ∀ x, (enc x).oneCell' = true} {e : Nat} {w : World} {base : Nat} {ok : Nat → Prop} {g cap : Nat} {xs : List α} {cur : Array Value}
    (hb : base ≤ g) (hok : ok g) (hh : w.heap[g]? = some (.cells cur e (0, 0))) (hn : xs.length ≤ cap) (hm : cap ≤ maxLen) (hs : cur.size = cap)
    (n : Nat) (d : Array α) (os : Array Obj) (ys : List α) (hy : ys.length ≤ d.size) (hd : d.size ≤ xs.length) (hyd : d.toList.take ys.length = ys) :
    (Kd.scalar enc h1).R e (Sort.grow (Sort.putRow enc (Sort.ahead w n) g 0 d) os) base ok (.slice (some ⟨g, 0, none⟩) ys.length cap) ys ∧ w.grownBy (Sort.grow (Sort.putRow enc (Sort.ahead w n) g 0 d) os) (some g) := by
  have hg : g < w.heap.size := (Array.getElem?_eq_some_iff.1 hh).1
  have hp : (Sort.putRow enc (Sort.ahead w n) g 0 d).heap[g]? = some (.cells (Sort.putCells enc 0 d cur) e (0, 0)) := hb_put_heap enc (Sort.ahead w n) g d cur e hh
  have hsz : (Sort.putRow enc (Sort.ahead w n) g 0 d).heap.size = w.heap.size := by simp [Sort.putRow, Sort.mapBlock]
  refine ⟨hb_mk (cur := Sort.putCells enc 0 d cur) hb hok ?_ (by omega) hm (by rw [hb_cells_size, hs]) ?_, ⟨rfl, rfl, rfl, ?_, ?_⟩⟩
  · rw [Sort.heap_grow_old _ _ (by omega)]; exact hp
  · rw [hb_cells_take _ _ _ _ hy (by omega), hyd]
  · rw [Sort.size_grow]; omega
  · intro k hk hne
    rw [Sort.heap_grow_old _ _ (by omega), hb_put_far _ _ _ _ _ (by intro h; exact hne (by rw [h]))]
    rfl
end

/-- From 'grownBy' the row to what a printed contract says of a row that is written. -/
theorem hb_below {w0 w w' : World} {row : Option Nat} (hB : Below w0.heap.size w0 w) (hg : w.grownBy w' row) (hr : ∀ k, row = some k → w0.heap.size ≤ k) : Below w0.heap.size w0 w' := hB.grown hg hB.size hr
theorem hb_kept {w w' : World} {row : Option Nat} {P : Nat → Prop} (hg : w.grownBy w' row) (hr : ∀ k, row = some k → P k) : Kept w w' P := ⟨hg.size, fun i hi hn => hg.block i hi (fun e => hn (hr i e.symm))⟩

/-- A row of numbers that is read, in the shelf's words. -/
theorem hb_plain {k : IntKind} {w : World} {A : Option Addr} {n : Nat} {l : List Int} (h : Kd.C (Kd.int k) w A n l) (hn : 0 < n) :
    ∃ b off, A = some ⟨b, off, none⟩ ∧ ∀ j, j < l.length → w.cell? ⟨b, off + j, none⟩ = some (.int k (l.getD j 0)) := by
  obtain ⟨hl, _, hc0⟩ := h
  obtain ⟨ad, hA, hc⟩ := hc0 hn
  subst hA
  obtain ⟨b, off, sp⟩ := ad
  have key : ∀ j, j < l.length → w.cell? ((⟨b, off, sp⟩ : Addr).add j) = some (.int k (l.getD j 0)) := by
    intro j hj
    obtain ⟨c, _, hr, hcell⟩ := hc j l[j] (List.getElem?_eq_getElem hj)
    have hr' : c = [Value.int k l[j]] := hr
    subst hr'
    have := hcell 0 _ rfl
    rw [show j * (Kd.int k).sz + 0 = j from Nat.mul_one j] at this
    rw [this, List.getD_eq_getElem?_getD, List.getElem?_eq_getElem hj]; rfl
  have hsp : sp = none := by
    have h0 := key 0 (by omega)
    unfold Addr.add World.cell? at h0
    cases sp with
    | none => rfl
    | some s =>
      simp at h0
      split at h0 <;> simp at h0
  subst hsp
  refine ⟨b, off, rfl, fun j hj => ?_⟩
  have := key j hj
  unfold Addr.add at this
  by_cases h0 : j = 0
  · subst h0; simpa using this
  · simpa [h0] using this
end Go.Proofs.Ytihaddejjgaepaa.G

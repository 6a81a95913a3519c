/- A range over an iterator that writes a row of its own (a list of marks) and keeps a queue: what the caller's round and the iterator owe one another, and the statement's law. -/
import Derived.Test.YtihaddejjgaepaaHbase
import Derived.RangeFuncFrom
import Derived.RangeFuncLeaves
import Derived.RangeFuncBox
namespace Go.Proofs.Ytihaddejjgaepaa.G
set_option linter.unusedVariables false
set_option linter.unusedSimpArgs false
open Go.RowKit

/-- Block k is the row of the slice that the variable in box o holds. -/
def OutRow (o : Nat) (W : World) (k : Nat) : Prop := ∃ v, W.cell? ⟨o, 0, none⟩ = some v ∧ v.ownBlock = some k
/-- A round leaves all cells but the box o and its row; the row is the one before, or a new one. -/
structure RoundK (o : Nat) (A B : World) : Prop where
  size : A.heap.size ≤ B.heap.size
  same : ∀ k c e fr, A.heap[k]? = some (.cells c e fr) → k ≠ o → ¬ OutRow o A k → B.heap[k]? = A.heap[k]?
  row : ∀ k, OutRow o B k → OutRow o A k ∨ (A.heap.size ≤ k ∧ k < B.heap.size)
theorem RoundK.trans {o : Nat} {A B C : World} (h : RoundK o A B) (k : RoundK o B C) : RoundK o A C :=
  ⟨Nat.le_trans h.size k.size, fun i c e fr hi ho hn => by
    have h1 := h.same i c e fr hi ho hn
    have hlt := (Array.getElem?_eq_some_iff.1 hi).1
    exact (k.same i c e fr (h1.trans hi) ho (fun hr => (h.row i hr).elim hn (fun h2 => by omega))).trans h1, fun i hi => (k.row i hi).elim (fun hb => (h.row i hb).imp_right (fun h2 => ⟨h2.1, Nat.lt_of_lt_of_le h2.2 k.size⟩)) (fun h2 => .inr ⟨Nat.le_trans h.size h2.1, h2.2⟩)⟩
theorem OutRow.of_box {o : Nat} {A B : World} (h : B.heap[o]? = A.heap[o]?) {k : Nat} : OutRow o B k ↔ OutRow o A k := by
  unfold OutRow
  rw [World.cell?_of_block (w := A) (w' := B) (a := ⟨o, 0, none⟩) h]
/-- The book-keeping of the loop (a record that is no cells) is a step of that kind. -/
theorem RoundK.putObj {o : Nat} (W : World) {l : Nat} {x : Obj} (x' : Obj) (hl : W.heap[l]? = some x) (hx : x.isCells = false) (ho : l ≠ o) : RoundK o W (W.putObj l x') := by
  have hsame : ∀ k, k ≠ l → (W.putObj l x').heap[k]? = W.heap[k]? := fun k hk => World.putObj_heap_other hk
  refine ⟨by simp [World.putObj], fun k c e fr hk _ _ => hsame k (fun h => ?_), fun k hk => .inl ((OutRow.of_box (hsame o (Ne.symm ho))).1 hk)⟩
  subst h
  rw [hk] at hl; cases hl; cases hx

/-- What is said between rounds abides the iterator's doing: its marks (row r), and whatever was laid since n₁, but for the box o and its row. -/
def Abide (o r n₁ : Nat) (I : List Int → World → Prop) : Prop :=
  ∀ s A B row, I s A → A.grownBy B row → (∀ k, row = some k → (k = r ∨ n₁ ≤ k) ∧ k ≠ o ∧ (¬ OutRow o A k ∨ ∃ x, A.heap[k]? = some x ∧ x.isCells = false)) → I s B
theorem Abide.alloc {o r n₁ : Nat} {I : List Int → World → Prop} (h : Abide o r n₁ I) {s : List Int} {W : World} (x : Obj) (hs : I s W) : I s (W.alloc x) :=
  h s W _ none hs (World.grownBy_alloc W x none) (fun _ e => by cases e)
theorem Abide.putObj {o r n₁ : Nat} {I : List Int → World → Prop} (h : Abide o r n₁ I) {s : List Int} {W : World} {l : Nat} {x : Obj} (x' : Obj) (hs : I s W) (hn : n₁ ≤ l) (ho : l ≠ o) (hl : W.heap[l]? = some x) (hx : x.isCells = false) : I s (W.putObj l x') :=
  h s W _ (some l) hs (grownBy_putObj' W l x') (fun k e => by cases e; exact ⟨.inr hn, ho, .inr ⟨x, hl, hx⟩⟩)

/-- The iterator's word to whoever ranges over it: all of 'full', in its order, and 'Fin' behind it; or a part of it, a round having left. -/
def SeqR (n : Nat) (P : Program) (gf : Nat) (lb : Array Value) (o r : Nat) (full : List Int) (Fin : World → Prop) (W : World) : Prop :=
  ∀ (l : Nat) (J Jx : List Int → World → Prop) (W1 : World), W.grownBy W1 none → Abide o r W1.heap.size J → Abide o r W1.heap.size Jx →
    (∀ pre x W2, J pre W2 → (pre ++ [x]) <+: full → YieldAt Fence.wide (n - 1) P l #[.int .i64 x] W2 fun e W' =>
      (e = .returned (.bool true) ∧ J (pre ++ [x]) W' ∧ RoundK o W2 W') ∨ (e = .returned (.bool false) ∧ Jx (pre ++ [x]) W')) →
    J [] W1 →
    CallsIn Fence.wide n P gf (#[.func (.yield l) #[] #[]] ++ lb) W1 fun e W' => (∃ v, e = .returned v) ∧ ((J full W' ∧ Fin W') ∨ (∃ pre, pre <+: full ∧ Jx pre W'))

/-- How a round may be left. -/
def postR (o n₁ : Nat) (I : List Int → World → Prop) (Ix : Code → List Int → World → Prop) (xs : List Int) (W : World) : Exit → Act → World → Prop
  | .normal, _, W' => (KeepsFrom n₁ W W' ∧ RoundK o W W') ∧ I xs W'
  | .ret, _, W' => KeepsFrom n₁ W W' ∧ Ix .ret xs W'
  | .exit id, _, W' => KeepsFrom n₁ W W' ∧ Ix (.exit id) xs W'
  | _, _, _ => False

theorem wpIn_rangeR {n : Nat} {P : Program} {g : Operand} {ps : Array Tmp} {assign body : Code} {Q : Exit → Act → World → Prop} {a : Act} {w : World} {gf : Nat} {lb : Array Value} {o r : Nat} {full : List Int} {Fin : World → Prop}
    (hg : a.eval g = .func (.func gf) #[] lb) (eg : ∀ args w, (callFunc gf args).run P w = .ok (.enter gf args) w) (hps : ps.size = 1)
    (hseq : SeqR (n - 1) P gf lb o r full Fin w) (ho : o < w.heap.size) (hr : r < w.heap.size)
    (hFin : ∀ W l x x', Fin W → W.heap[l]? = some x → x.isCells = false → Fin (W.putObj l x'))
    (I : List Int → World → Prop) (Ix : Code → List Int → World → Prop) (hI : Abide o r w.heap.size I) (hIx : ∀ c, Abide o r w.heap.size (Ix c)) (h0 : I [] w) (a₁ : Int → Act)
    (hassign : ∀ (l : Nat) (x : Int) (W : World) (K : Act → World → Prop), K (a₁ x) W →
      assign.wpIn (Fence.wide.inRound l) (n - 1 - 1) P (Exit.then K (fun _ _ _ => False)) { tmps := (ps.zip #[Value.int .i64 x]).foldl (fun t (p, v) => t.setIfInBounds p v) a.tmps, defers := [] } W)
    (hbody : ∀ (l : Nat) (pre : List Int) (x : Int) (W : World), I pre W → (pre ++ [x]) <+: full → body.wpIn (Fence.wide.inRound l) (n - 1 - 1) P (postR o w.heap.size I Ix (pre ++ [x]) W) (a₁ x) W)
    (hdone : ∀ (D : Nat) (W : World), w.heap.size ≤ D → I full W → Fin W → W.heap[D]? = some (.deferred (some [])) → Q .normal { a with defers := { target := .collected D, args := #[] } :: a.defers } W)
    (hstop : ∀ (D : Nat) (c : Code) (pre : List Int) (W : World), w.heap.size ≤ D → pre <+: full → Ix c pre W → W.heap[D]? = some (.deferred (some [])) → c.wpIn Fence.wide n P Q { a with defers := { target := .collected D, args := #[] } :: a.defers } W) :
    (Code.rangeFunc g ps assign body).wpIn Fence.wide n P Q a w := by
  refine wpIn_rangeFunc fun fn hfn => ?_
  -- the record that the loop lays, in each of its states
  let R : LoopState → Option Code → Loop := fun st pe => { state := st, pending := pe, fn, tmps := a.tmps, params := ps, assign, body, defers := w.heap.size }
  have hR : R = fun st pe => { state := st, pending := pe, fn, tmps := a.tmps, params := ps, assign, body, defers := w.heap.size } := rfl
  clear_value R
  generalize hlN : w.heap.size + 1 = lN
  have hlo : lN ≠ o := by omega
  obtain ⟨W1, hW1⟩ : ∃ W1, (w.alloc (.deferred (some []))).alloc (.loop (R .ready none)) = W1 := ⟨_, rfl⟩
  have hgw : w.grownBy W1 none := hW1 ▸ (World.grownBy_alloc w _ none).trans (World.grownBy_alloc _ _ none)
  have hloop : W1.heap[lN]? = some (.loop (R .ready none)) := by
    have := World.alloc_heap_new (w.alloc (.deferred (some []))) (.loop (R .ready none))
    rwa [World.size_alloc, hlN, hW1] at this
  have hdef : W1.heap[w.heap.size]? = some (.deferred (some [])) := hW1 ▸ (Below.heap_alloc _ _ _ (by simp)).trans (World.alloc_heap_new w _)
  refine ⟨lN, [{ target := .collected w.heap.size, args := #[] }], W1, { target := .fn (.func gf) lb, args := #[.func (.yield lN) #[] #[]] }, W1, gf, #[.func (.yield lN) #[] #[]] ++ lb, W1, ?_, ?_, fun f' hf' => trivial, ?_, fun h => by simp [Fence.wide] at h, ?_⟩
  · rw [← hW1, ← hlN, hR]; exact run_enterLoop_outer _ _ _ _ _
  · simp only [resolve, hg]; simp [go_sem]
  · simp [invoke, go_sem, eg]
  -- the records abide whatever turns a row of cells, and new blocks
  have hrec : ∀ {A B : World} {row : Option Nat} {j : Nat} {x : Obj}, A.grownBy B row → (∀ k, row = some k → k ≠ j) → A.heap[j]? = some x → B.heap[j]? = some x := fun hg' hne hx =>
    (hg'.block _ (Array.getElem?_eq_some_iff.1 hx).1 (fun e => hne _ e.symm rfl)).trans hx
  have habide : ∀ (J : List Int → World → Prop) (st : LoopState) (pe : Option Code), Abide o r w.heap.size J →
      Abide o r W1.heap.size (fun pre W => J pre W ∧ W.heap[lN]? = some (.loop (R st pe)) ∧ W.heap[w.heap.size]? = some (.deferred (some []))) := by
    intro J st pe hJ s A B row hs hg' hrow
    have hsz : w.heap.size ≤ W1.heap.size := hgw.size
    have h2 : w.heap.size + 2 ≤ W1.heap.size := by rw [← hW1]; simp
    have hk : ∀ k, row = some k → k ≠ lN ∧ k ≠ w.heap.size := fun k e => by
      rcases (hrow k e).1 with h | h <;> omega
    refine ⟨hJ s A B row hs.1 hg' (fun k e => ?_), hrec hg' (fun k e => (hk k e).1) hs.2.1, hrec hg' (fun k e => (hk k e).2) hs.2.2⟩
    obtain ⟨h3, h4, h5⟩ := hrow k e
    exact ⟨h3.elim .inl (fun h => .inr (by omega)), h4, h5⟩
  have hsq : SeqR (n - 1) P gf lb o r full Fin w := hseq
  have hone : ∀ x : Int, (#[Value.int .i64 x]).size = ps.size := fun x => hps.symm
  refine (hsq lN (fun pre W => I pre W ∧ W.heap[lN]? = some (.loop (R .ready none)) ∧ W.heap[w.heap.size]? = some (.deferred (some [])))
    (fun pre W => ∃ c, Ix c pre W ∧ W.heap[lN]? = some (.loop (R .done (some c))) ∧ W.heap[w.heap.size]? = some (.deferred (some [])))
    W1 hgw ?_ ?_ ?_ ⟨hI [] w W1 none h0 hgw (fun _ e => by cases e), hloop, hdef⟩).mono ?_
  · exact habide I _ _ hI
  · intro s A B row hs hg' hrow
    obtain ⟨c, hs⟩ := hs
    exact ⟨c, habide (Ix c) _ _ (hIx c) s A B row hs hg' hrow⟩
  · -- one round
    rintro pre x W ⟨hi, hl, hd⟩ hpre
    have hlt : lN < W.heap.size := (Array.getElem?_eq_some_iff.1 hl).1
    have hy := run_yield (P := P) (args := #[Value.int .i64 x]) hl (by rw [hR]; exact hps.symm)
    rw [hR] at hy
    refine ⟨fn, _, assign, body, hy, roundIn_of_wpIn hfn (hassign _ x W _ ⟨_, run_beginRound hl (by rw [hR]), ?_⟩)⟩
    generalize hB : ({ R .ready none with state := .busy } : Loop) = busy
    obtain ⟨Wb, hWb⟩ : ∃ Wb, W.putObj lN (.loop busy) = Wb := ⟨_, rfl⟩
    rw [hWb]
    have hl2 : Wb.heap[lN]? = some (.loop busy) := hWb ▸ World.putObj_heap_same hlt
    have hd2 : Wb.heap[w.heap.size]? = some (.deferred (some [])) := hWb ▸ (World.putObj_heap_other (by omega)).trans hd
    have hk2 : RoundK o W Wb := hWb ▸ RoundK.putObj W _ hl rfl hlo
    have hi2 : I pre Wb := hWb ▸ hI.putObj _ hi (by omega) hlo hl rfl
    refine wpIn_mono (hbody _ pre x _ hi2 hpre) ?_
    have fin : ∀ (jump : Option Code) (W3 : World), KeepsFrom w.heap.size Wb W3 → ∃ W4, (Instr.endRound lN jump).run P W3 = .ok (.bool jump.isNone) W4 ∧ W4 = W3.putObj lN (.loop (R (if jump.isNone then .ready else .done) jump)) ∧ W3.heap[lN]? = some (.loop busy) ∧
        W4.heap[lN]? = some (.loop (R (if jump.isNone then .ready else .done) jump)) ∧ W4.heap[w.heap.size]? = some (.deferred (some [])) := by
      intro jump W3 hk3
      have hl3 := hk3.same _ _ (by omega) hl2 rfl
      have hd3 := hk3.same _ _ (Nat.le_refl _) hd2 rfl
      refine ⟨_, ?_, rfl, hl3, World.putObj_heap_same (Array.getElem?_eq_some_iff.1 hl3).1, (World.putObj_heap_other (by omega)).trans hd3⟩
      have := run_endRound (P := P) jump hl3
      rw [← hB, hR] at this
      rw [hR]
      exact this
    rintro e a3 W3 hp
    cases e with
    | normal =>
      obtain ⟨⟨hk3, hr3⟩, hi3⟩ := hp
      obtain ⟨W4, hrun, h4, hl3, hl4, hd4⟩ := fin none W3 hk3
      refine ⟨_, _, hrun, .inl ⟨rfl, ⟨?_, hl4, hd4⟩, ?_⟩⟩
      · rw [h4]; exact hI.putObj _ hi3 (by omega) hlo hl3 rfl
      · rw [h4]; exact (hk2.trans hr3).trans (RoundK.putObj _ _ hl3 rfl hlo)
    | ret =>
      obtain ⟨hk3, hi3⟩ := hp
      obtain ⟨W4, hrun, h4, hl3, hl4, hd4⟩ := fin (some .ret) W3 hk3
      refine ⟨_, _, hrun, .inr ⟨rfl, .ret, ?_, hl4, hd4⟩⟩
      rw [h4]; exact (hIx _).putObj _ hi3 (by omega) hlo hl3 rfl
    | exit id =>
      obtain ⟨hk3, hi3⟩ := hp
      obtain ⟨W4, hrun, h4, hl3, hl4, hd4⟩ := fin (some (.exit id)) W3 hk3
      refine ⟨_, _, hrun, .inr ⟨rfl, .exit id, ?_, hl4, hd4⟩⟩
      rw [h4]; exact (hIx _).putObj _ hi3 (by omega) hlo hl3 rfl
    | goto t => exact hp.elim
    | panic ch => exact hp.elim
    | outgrown => exact hp.elim
  · -- behind the iterator
    rintro e W2 ⟨⟨v, rfl⟩, (⟨⟨hi, hl, hd⟩, hf⟩ | ⟨pre, hp, c, hi, hl, hd⟩)⟩
    · refine ⟨none, _, by have := run_endLoop (P := P) hl (by rw [hR]; simp); rw [hR] at this; exact this, hdone _ _ (Nat.le_refl _) (hI.putObj _ hi (by omega) hlo hl rfl) (hFin _ _ _ _ hf hl rfl) ((World.putObj_heap_other (by omega)).trans hd)⟩
    · refine ⟨some c, _, by have := run_endLoop (P := P) hl (by rw [hR]; simp); rw [hR] at this; exact this, hstop _ c pre _ (Nat.le_refl _) hp ((hIx c).putObj _ hi (by omega) hlo hl rfl) ((World.putObj_heap_other (by omega)).trans hd)⟩
end Go.Proofs.Ytihaddejjgaepaa.G

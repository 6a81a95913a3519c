/- What grow.Region and grow.Order share: the calls of around, the memory in which its iterator begins. -/
import Derived.Test.YtihaddejjgaepaaHaround
import Derived.Test.YtihaddejjgaepaaHsides
import Derived.Test.YtihaddejjgaepaaHgraph
import Derived.Test.YtihaddejjgaepaaHlib
import Derived.Maps.AppendAt
import Derived.Test.YtihaddejjgaepaaWArr
namespace Go.Proofs.Ytihaddejjgaepaa.G
set_option linter.unusedVariables false
set_option linter.unusedSimpArgs false
open Go.RowKit Go.Shelf Go.Proofs.YtihaddejjgaepaaW.PrintWords Go.Proofs.YtihaddejjgaepaaW.PrintLast Go.Proofs.YtihaddejjgaepaaW.PrintMore

attribute [local go_sem] Oper.semAt_some

theorem hb_at {w : World} {b : Nat} {cs : Array Value} {t : Nat} {fr : Nat × Nat} (h : w.heap[b]? = some (.cells cs t fr)) (i : Nat) : w.cell? ⟨b, i, none⟩ = cs[i]? := by simp [World.cell?, h]
theorem bodyPostM_two {F : Fence} {n : Nat} {P : Program} {fn : Func} {R : Ending → World → Prop} {tmps : Array Value} {w : World} {p q : Tmp} (h : fn.results = #[.tmp p, .tmp q]) (hR : R (.returned (.tuple #[tmps.getD p undef, tmps.getD q undef])) w) :
    bodyPostM F n P fn R .ret { tmps := tmps, defers := [] } w := ⟨_, results_tmp2 h _ _ _, hR⟩
theorem bodyPostM_two_marked {F : Fence} {n : Nat} {P : Program} {fn : Func} {R : Ending → World → Prop} {tmps : Array Value} {w : World} {D : Nat} {p q : Tmp} (h : fn.results = #[.tmp p, .tmp q]) (hD : w.heap[D]? = some (.deferred (some []))) (hR : R (.returned (.tuple #[tmps.getD p undef, tmps.getD q undef])) (w.putObj D (.deferred none))) :
    bodyPostM F n P fn R .ret { tmps := tmps, defers := [{ target := .collected D, args := #[] }] } w := ⟨by simp, .inl ⟨_, _, rfl, run_takeDeferred hD, ⟨_, results_tmp2 h _ _ _, hR⟩⟩⟩
theorem grow_around.calls {n : Nat} (A C : Option Addr) (m cp m' cp' : Nat) (c : Int) (W : World) :
    CallsIn Fence.wide n Try.prog 22 #[.slice A m cp, .int .i64 c, .slice C m' cp'] W fun e w' => e = .returned (.func (.func 36) #[] #[.pointer (some ⟨W.heap.size + 2, 0, none⟩), .pointer (some ⟨W.heap.size + 1, 0, none⟩), .pointer (some ⟨W.heap.size, 0, none⟩)]) ∧
      w' = ((W.alloc (.cells #[.slice A m cp] 50)).alloc (.cells #[.int .i64 c] 3)).alloc (.cells #[.slice C m' cp'] 37) := by
  refine callsIn_of_wp Try.func22 rfl trivial ?_
  simp only [Try.ntmps22, List.size_toArray, List.length_cons, List.length_nil, Nat.reduceAdd, Nat.reduceSub, Array.replicate_succ, Array.replicate_zero, List.push_toArray, List.append_toArray, List.nil_append, List.cons_append]
  gi_wp2
  go_ret
  exact ⟨rfl, rfl⟩
theorem below_grown {w w' : World} (h : w.grownBy w' none) : Below w.heap.size w w' := (Below.refl _ _).grown h (Nat.le_refl _) (fun _ e => by cases e)
theorem make_bools (x : Int) (h0 : 0 ≤ x) (h1 : x ≤ 1048576) : ∃ f : World → World, ∀ W, (Instr.makeSlice 37 (.int .i64 x) (.int .i64 x)).run Try.prog W = .ok (.slice (some ⟨W.heap.size, 0, none⟩) x.toNat x.toNat) (f W) ∧
    Kd.R Kd.bool 4 (f W) W.heap.size (fun _ => True) (.slice (some ⟨W.heap.size, 0, none⟩) x.toNat x.toNat) (List.replicate x.toNat false) ∧ W.grownBy (f W) none := by
  have key : ∀ W : World, ∃ w', (Instr.makeSlice 37 (.int .i64 x) (.int .i64 x)).run Try.prog W = .ok (.slice (some ⟨W.heap.size, 0, none⟩) x.toNat x.toNat) w' ∧
      Kd.R Kd.bool 4 w' W.heap.size (fun _ => True) (.slice (some ⟨W.heap.size, 0, none⟩) x.toNat x.toNat) (List.replicate x.toNat false) ∧ W.grownBy w' none := by
    intro W
    obtain ⟨n, rfl⟩ := Int.eq_ofNat_of_zero_le h0
    obtain ⟨i, hi, hz⟩ := Option.map_eq_some_iff.1 info4
    simp only [Prod.mk.injEq] at hz
    obtain ⟨hz, hs, hb⟩ := hz
    obtain ⟨w', hr, ho, hg⟩ := run_make_full (P := Try.prog) (w := W) W.heap.size 37 4 i _ _ Try.underlying37 hi hz hs .i64 .i64 n (by rw [hb]; omega) (by simp [maxLen]; omega) (Nat.le_refl _)
    refine ⟨w', hr, Kd.R_of_own ?_ (fun _ _ => trivial), hg⟩
    have e : (madeCells (Value.cells (.bool false)) (n * 1)).toList = encs Value.bool (List.replicate (Int.toNat (n : Int)) false) := by
      have hc : Value.cells (.bool false) = #[.bool false] := rfl
      rw [hc]
      apply List.ext_getElem
      · simp [madeCells, encs]
      · intro j h1 h2
        simp [madeCells, encs, Nat.mod_one]
    rw [← e]
    simpa using ho
  exact ⟨fun W => (key W).choose, fun W => (key W).choose_spec⟩
/-- The memory in which an iterator of grow.around begins. -/
structure RM (n : Nat) (nb : List (List Int)) (c : Int) (w4 W : World) (bi bc bb r capr cb b5 e5 : Nat) (A : Option Addr) : Prop where
  below : Below w4.heap.size w4 W
  nbs : Kd.F (Kd.slice 3 (Kd.int .i64)) W (fun k => b5 ≤ k ∧ k < e5 ∧ ∃ cs e fr, W.heap[k]? = some (.cells cs e fr)) A nb.length nb
  list : ∀ ad, A = some ad → b5 ≤ ad.block ∧ ad.block < e5 ∧ ∃ cs e fr, W.heap[ad.block]? = some (.cells cs e fr)
  lo : w4.heap.size ≤ b5 ∧ e5 ≤ bb ∧ bc = bb + 1 ∧ bi = bb + 2 ∧ bi < W.heap.size
  row : Kd.R Kd.bool 4 W w4.heap.size (fun _ => True) (.slice (some ⟨r, 0, none⟩) n capr) (List.replicate n false)
  rsep : (r < b5 ∨ e5 ≤ r) ∧ r < bb
  ci : W.cell? ⟨bi, 0, none⟩ = some (.slice (some ⟨r, 0, none⟩) n capr)
  cc : W.cell? ⟨bc, 0, none⟩ = some (.int .i64 c)
  cb : W.cell? ⟨bb, 0, none⟩ = some (.slice A nb.length cb)
theorem rm_of {n : Nat} {nb : List (List Int)} {c : Int} {w4 X : World} {A : Option Addr} {r capr cb b5 e5 : Nat} (hB : Below w4.heap.size w4 X)
    (hF : Kd.F (Kd.slice 3 (Kd.int .i64)) X (fun k => b5 ≤ k ∧ k < e5 ∧ ∃ cs e fr, X.heap[k]? = some (.cells cs e fr)) A nb.length nb)
    (hA : ∀ ad, A = some ad → b5 ≤ ad.block ∧ ad.block < e5 ∧ ∃ cs e fr, X.heap[ad.block]? = some (.cells cs e fr)) (hlo : w4.heap.size ≤ b5 ∧ e5 ≤ X.heap.size)
    (hR : Kd.R Kd.bool 4 X w4.heap.size (fun _ => True) (.slice (some ⟨r, 0, none⟩) n capr) (List.replicate n false)) (hr : (r < b5 ∨ e5 ≤ r) ∧ r < X.heap.size) :
    RM n nb c w4 (((X.alloc (.cells #[.slice A nb.length cb] 50)).alloc (.cells #[.int .i64 c] 3)).alloc (.cells #[.slice (some ⟨r, 0, none⟩) n capr] 37)) (X.heap.size + 2) (X.heap.size + 1) X.heap.size r capr cb b5 e5 A := by
  obtain ⟨W1, h1⟩ : ∃ W1, X.alloc (.cells #[.slice A nb.length cb] 50) = W1 := ⟨_, rfl⟩
  obtain ⟨W2, h2⟩ : ∃ W2, W1.alloc (.cells #[.int .i64 c] 3) = W2 := ⟨_, rfl⟩
  obtain ⟨W3, h3⟩ : ∃ W3, W2.alloc (.cells #[.slice (some ⟨r, 0, none⟩) n capr] 37) = W3 := ⟨_, rfl⟩
  rw [h1, h2, h3]
  have s1 : W1.heap.size = X.heap.size + 1 := by rw [← h1]; simp
  have s2 : W2.heap.size = X.heap.size + 2 := by rw [← h2]; simp [s1]
  have s3 : W3.heap.size = X.heap.size + 3 := by rw [← h3]; simp [s2]
  have k3 : ∀ k, k < W2.heap.size → W3.heap[k]? = W2.heap[k]? := fun k hk => by rw [← h3]; exact Below.heap_alloc _ _ _ hk
  have k2 : ∀ k, k < W1.heap.size → W2.heap[k]? = W1.heap[k]? := fun k hk => by rw [← h2]; exact Below.heap_alloc _ _ _ hk
  have k1 : ∀ k, k < X.heap.size → W1.heap[k]? = X.heap[k]? := fun k hk => by rw [← h1]; exact Below.heap_alloc _ _ _ hk
  have kX : ∀ k, k < X.heap.size → W3.heap[k]? = X.heap[k]? := fun k hk => by rw [k3 k (by omega), k2 k (by omega), k1 k hk]
  refine { below := ?_, nbs := ?_, list := ?_, lo := ?_, row := ?_, rsep := ?_, ci := ?_, cc := ?_, cb := ?_ }
  · rw [← h3, ← h2, ← h1]
    exact ((hB.alloc hB.size _).alloc (by simp; have := hB.size; omega) _).alloc (by simp; have := hB.size; omega) _
  · intro W' hW'
    refine hF W' (fun k hk hlt => ?_)
    obtain ⟨ha, hb, cs, e, fr, hc⟩ := hk
    rw [hW' k ⟨ha, hb, cs, e, fr, (kX k hlt).trans hc⟩ (by omega), kX k hlt]
  · intro ad had
    obtain ⟨ha, hb, cs, e, fr, hc⟩ := hA ad had
    exact ⟨ha, hb, cs, e, fr, (kX _ (by omega)).trans hc⟩
  · exact ⟨hlo.1, hlo.2, rfl, rfl, by omega⟩
  · rw [← h3, ← h2, ← h1]
    exact Kd.R_alloc (Kd.R_alloc (Kd.R_alloc hR _) _) _
  · exact ⟨hr.1, hr.2⟩
  · refine (hb_at (cs := #[.slice (some ⟨r, 0, none⟩) n capr]) (t := 37) (fr := (0, 0)) ?_ 0)
    rw [← s2, ← h3]; exact World.alloc_heap_new _ _
  · refine (hb_at (cs := #[.int .i64 c]) (t := 3) (fr := (0, 0)) ?_ 0)
    rw [k3 _ (by omega), ← s1, ← h2]; exact World.alloc_heap_new _ _
  · refine (hb_at (cs := #[.slice A nb.length cb]) (t := 50) (fr := (0, 0)) ?_ 0)
    rw [k3 _ (by omega), k2 _ (by omega), ← h1]; exact World.alloc_heap_new _ _
theorem rows_foot {w : World} {base : Nat} {A : Option Addr} {n cb : Nat} {nb : List (List Int)} (hS : Kd.S (Kd.slice 3 (Kd.int .i64)) 28 w base (fun _ => True) (.slice A n cb) nb) (X : World) (hX : ∀ k, k < w.heap.size → X.heap[k]? = w.heap[k]?) :
    Kd.F (Kd.slice 3 (Kd.int .i64)) X (fun k => base ≤ k ∧ k < w.heap.size ∧ ∃ cs e fr, X.heap[k]? = some (.cells cs e fr)) A nb.length nb ∧ (∀ ad, A = some ad → base ≤ ad.block ∧ ad.block < w.heap.size ∧ ∃ cs e fr, X.heap[ad.block]? = some (.cells cs e fr)) := by
  constructor
  · intro W' hW'
    have hlen : w.heap.size ≤ X.heap.size := by
      rcases Nat.eq_zero_or_pos w.heap.size with h | h
      · omega
      · have h1 := hX (w.heap.size - 1) (by omega)
        rw [Array.getElem?_eq_getElem (xs := w.heap) (by omega)] at h1
        have := (Array.getElem?_eq_some_iff.1 h1).1
        omega
    refine (Kd.S_reads' (Kd.S_move (Kd.S_bound hS) (w1 := W') (fun k hk => ?_))).2.2
    obtain ⟨_, h2, h3, q, _, cells, h5⟩ := hk
    rw [hW' k ⟨h2, h3, _, _, _, (hX k h3).trans h5⟩ (by omega), hX k h3]
  · intro ad had
    subst had
    obtain ⟨cells, hc⟩ := Kd.S_typed hS ad.block rfl
    have h3 := Kd.S_lt hS ad.block rfl
    exact ⟨Kd.S_base hS ad.block rfl, h3, _, _, _, (hX _ h3).trans hc⟩
/-- The sides first, then the marks. -/
theorem rm_A {n : Nat} {nb : List (List Int)} {c : Int} {w4 w5 f : World} {A : Option Addr} {cb : Nat} (hS : Kd.S (Kd.slice 3 (Kd.int .i64)) 28 w5 w4.heap.size (fun _ => True) (.slice A nb.length cb) nb) (hB : Below w4.heap.size w4 w5)
    (hR : Kd.R Kd.bool 4 f w5.heap.size (fun _ => True) (.slice (some ⟨w5.heap.size, 0, none⟩) n n) (List.replicate n false)) (hg : w5.grownBy f none) :
    RM n nb c w4 (((f.alloc (.cells #[.slice A nb.length cb] 50)).alloc (.cells #[.int .i64 c] 3)).alloc (.cells #[.slice (some ⟨w5.heap.size, 0, none⟩) n n] 37)) (f.heap.size + 2) (f.heap.size + 1) f.heap.size w5.heap.size n cb w4.heap.size w5.heap.size A := by
  obtain ⟨hF, hA⟩ := rows_foot hS f (fun k hk => hg.block k hk (by simp))
  exact rm_of (hB.grown hg hB.size (fun _ e => by cases e)) hF hA ⟨Nat.le_refl _, hg.size⟩ (Kd.R_lower hR hB.size) ⟨.inr (Nat.le_refl _), Kd.R_lt hR _ rfl⟩
/-- The marks first, then the sides. -/
theorem rm_B {n : Nat} {nb : List (List Int)} {c : Int} {w4 w5 f : World} {A : Option Addr} {cb : Nat} (hR : Kd.R Kd.bool 4 f w4.heap.size (fun _ => True) (.slice (some ⟨w4.heap.size, 0, none⟩) n n) (List.replicate n false)) (hg : w4.grownBy f none)
    (hS : Kd.S (Kd.slice 3 (Kd.int .i64)) 28 w5 f.heap.size (fun _ => True) (.slice A nb.length cb) nb) (hB : Below f.heap.size f w5) :
    RM n nb c w4 (((w5.alloc (.cells #[.slice A nb.length cb] 50)).alloc (.cells #[.int .i64 c] 3)).alloc (.cells #[.slice (some ⟨w4.heap.size, 0, none⟩) n n] 37)) (w5.heap.size + 2) (w5.heap.size + 1) w5.heap.size w4.heap.size n cb f.heap.size w5.heap.size A := by
  obtain ⟨hF, hA⟩ := rows_foot hS w5 (fun _ _ => rfl)
  have hlt := Kd.R_lt hR _ rfl
  exact rm_of ((below_grown hg).trans (hB.mono hg.size)) hF hA ⟨hg.size, Nat.le_refl _⟩ (Kd.R_below hR hB) ⟨.inl hlt, Nat.lt_of_lt_of_le hlt hB.size⟩

/-! ### 'out = append(out, x)' in a round: the box o holds a list of numbers -/
theorem append_int_run {W : World} {n0 : Nat} {v : Value} {xs : List Int} (x : Int) (hR : Kd.R (Kd.int .i64) 3 W n0 (fun _ => True) v xs) (hn0 : n0 ≤ W.heap.size) (hl : xs.length + 1 ≤ 1048576) :
    ∃ v1 w1, (Builtin.append_ #[28, 28] 28 #[v, .slice (some ⟨W.heap.size, 0, none⟩) 1 1]).run Try.prog (W.alloc (.cells #[.int .i64 x] 3)) = .ok v1 w1 ∧ Kd.R (Kd.int .i64) 3 w1 n0 (fun _ => True) v1 (xs ++ [x]) ∧ W.grownBy w1 v.ownBlock ∧
      (v1.ownBlock = v.ownBlock ∨ ∃ b, v1.ownBlock = some b ∧ W.heap.size ≤ b) := by
  obtain ⟨i, hi, hz⟩ := Option.map_eq_some_iff.1 info3
  simp only [Prod.mk.injEq] at hz
  obtain ⟨hz, hs, hb⟩ := hz
  obtain ⟨h0, inner, ho, hr⟩ := hR
  have hin : inner = encs (Value.int .i64) xs := Kd.reps_encs (enc := Value.int .i64) hr
  subst hin
  have ho' := ho.alloc (.cells #[.int .i64 x] 3)
  obtain ⟨v', w', hrun', ho2, hg, _, hat⟩ := run_append_own_at (P := Try.prog) (w := W.alloc (.cells #[.int .i64 x] 3)) n0 28 28 3 i _ _ _ Try.underlying28 hi hz hs hb (by rfl) (by decide) v xs.length _ ho' ⟨W.heap.size, 0, none⟩ 1 1 [.int .i64 x] (by simp [Kd.int]) (fun j u hj => by
      rcases j with _ | j
      · simp at hj
        subst hj
        exact hb_at (World.alloc_heap_new W _) 0
      · simp at hj) (by simp [Value.oneCell']) (by simp [maxLen]; omega) (by omega) (by simp; omega)
  refine ⟨v', w', hrun', Kd.R_of_own ?_ (fun _ _ => trivial), (World.grownBy_alloc W _ _).trans hg, hat.imp_right fun h => ⟨_, h, by simp⟩⟩
  simpa [encs] using ho2

/-- The list of numbers in the box o. -/
def OutIs (o n0 : Nat) (W : World) (xs : List Int) : Prop := ∃ v, Boxed W o 28 v ∧ Kd.R (Kd.int .i64) 3 W n0 (fun _ => True) v xs
theorem OutIs.row {o n0 : Nat} {W : World} {v : Value} (h : Boxed W o 28 v) (k : Nat) : OutRow o W k ↔ v.ownBlock = some k := by
  constructor
  · rintro ⟨u, hu, hk⟩
    rw [h.cell] at hu
    cases hu
    exact hk
  · exact fun hk => ⟨v, h.cell, hk⟩
/-- It abides the iterator's doing. -/
theorem OutIs.abide {o n0 : Nat} {A B : World} {xs : List Int} {row : Option Nat} (h : OutIs o n0 A xs) (hg : A.grownBy B row) (hk : ∀ k, row = some k → k ≠ o ∧ (¬ OutRow o A k ∨ ∃ x, A.heap[k]? = some x ∧ x.isCells = false)) : OutIs o n0 B xs := by
  obtain ⟨v, hv, hR⟩ := h
  refine ⟨v, hv.kept hg (fun e => (hk o e.symm).1 rfl), Kd.R_mono (Kd.R_step (Kd.R_tight rfl hR) (fun k hk' hlt => hg.block k hlt (fun e => ?_))) (fun _ _ => trivial)⟩
  have hkv : v.ownBlock = some k := by simpa using hk'.symm
  rcases (hk k e.symm).2 with h1 | ⟨x, hx, hc⟩
  · exact h1 ((OutIs.row (n0 := n0) hv k).2 hkv)
  · obtain ⟨cells, hcs⟩ := Kd.R_typed hR k hkv
    rw [hcs] at hx
    cases hx
    cases hc
theorem out_step {o n0 : Nat} {W w1 : World} {v v1 : Value} {xs ys : List Int} (hv : Boxed W o 28 v) (hR : Kd.R (Kd.int .i64) 3 W n0 (fun _ => True) v xs) (hn0 : n0 ≤ W.heap.size) (ho : n0 ≤ o)
    (hR1 : Kd.R (Kd.int .i64) 3 w1 n0 (fun _ => True) v1 ys) (hg : W.grownBy w1 v.ownBlock) (hat : v1.ownBlock = v.ownBlock ∨ ∃ b, v1.ownBlock = some b ∧ W.heap.size ≤ b) :
    Boxed w1 o 28 v ∧ OutIs o n0 (w1.setCell ⟨o, 0, none⟩ v1) ys ∧ KeepsOthers W (w1.setCell ⟨o, 0, none⟩ v1) ∧ RoundK o W (w1.setCell ⟨o, 0, none⟩ v1) ∧ Below n0 W (w1.setCell ⟨o, 0, none⟩ v1) := by
  have hne : some o ≠ v.ownBlock := Kd.R_ne hR hv (by decide)
  have hv1 : Boxed w1 o 28 v := hv.kept hg hne
  have hne1 : some o ≠ v1.ownBlock := Kd.R_ne hR1 hv1 (by decide)
  have hset : Boxed (w1.setCell ⟨o, 0, none⟩ v1) o 28 v1 := hv1.set v1
  have hgs := grownBy_setCell' w1 o v1
  have hs : (w1.setCell ⟨o, 0, none⟩ v1).heap.size = w1.heap.size := by simp
  refine ⟨hv1, ⟨v1, hset, Kd.R_mono (Kd.R_step (Kd.R_tight rfl hR1) (fun k hk hlt => hgs.block k hlt (fun e => ?_))) (fun _ _ => trivial)⟩, ?_, ?_, ?_⟩
  · have hk' : v1.ownBlock = some k := by simpa using hk.symm
    exact hne1 (e.symm.trans hk'.symm)
  · refine (KeepsOthers.of_grownBy hg fun j x ej hj => ?_).trans (KeepsOthers.setCell _ _ _)
    obtain ⟨cells, hc⟩ := Kd.R_typed hR j ej
    rw [hc] at hj; cases hj; rfl
  · refine ⟨by rw [hs]; exact hg.size, fun k c e fr hk hko hnr => ?_, fun k hk => ?_⟩
    · have hlt := (Array.getElem?_eq_some_iff.1 hk).1
      rw [hgs.block k (Nat.lt_of_lt_of_le hlt hg.size) (fun e => hko (Option.some.inj e)), hg.block k hlt (fun e => hnr ((OutIs.row (n0 := n0) hv k).2 e.symm))]
    · have hk' := (OutIs.row (n0 := n0) hset k).1 hk
      rcases hat with h | ⟨b, h, hle⟩
      · exact .inl ((OutIs.row (n0 := n0) hv k).2 (h.symm.trans hk'))
      · rw [h] at hk'
        cases hk'
        exact .inr ⟨hle, by rw [hs]; exact Kd.R_lt hR1 _ h⟩
  · exact ((Below.refl n0 W).grown hg hn0 (fun k e => Kd.R_base hR k e)).setCell (p := ⟨o, 0, none⟩) ho v1

theorem marked_end {w W : World} {D n0 : Nat} {v : Value} {xs : List Int} (x' : Obj) (hR : Kd.R (Kd.int .i64) 3 W n0 (fun _ => True) v xs) (hn : w.heap.size ≤ n0) (hD : W.heap[D]? = some (.deferred (some []))) (hDn : w.heap.size ≤ D) (hB : Below w.heap.size w W) :
    Kd.R (Kd.int .i64) 3 (W.putObj D x') w.heap.size (fun _ => True) v xs ∧ Below w.heap.size w (W.putObj D x') := by
  refine ⟨Kd.R_lower (Kd.R_mono (Kd.R_step (Kd.R_tight rfl hR) (fun k hk hlt => World.putObj_heap_other (fun e => ?_))) (fun _ _ => trivial)) hn, hB.grown (grownBy_putObj' W D x') hB.size (fun k e => by cases e; exact hDn)⟩
  obtain ⟨cells, hc⟩ := Kd.R_typed hR k (by simpa using hk.symm)
  rw [e, hD] at hc
  cases hc

theorem rm_A' {n L r : Nat} {nb : List (List Int)} {c : Int} {w4 w5 f : World} {A : Option Addr} {cb : Nat} (hL : L = nb.length) (hr : r = w5.heap.size) (hS : Kd.S (Kd.slice 3 (Kd.int .i64)) 28 w5 w4.drew.heap.size (fun _ => True) (.slice A nb.length cb) nb) (hB : Below w4.drew.heap.size w4.drew w5)
    (hR : Kd.R Kd.bool 4 f w5.heap.size (fun _ => True) (.slice (some ⟨w5.heap.size, 0, none⟩) n n) (List.replicate n false)) (hg : w5.grownBy f none) :
    RM n nb c w4 (((f.alloc (.cells #[.slice A L cb] 50)).alloc (.cells #[.int .i64 c] 3)).alloc (.cells #[.slice (some ⟨r, 0, none⟩) n n] 37)) (f.heap.size + 2) (f.heap.size + 1) f.heap.size r n cb w4.heap.size w5.heap.size A := by
  subst hL hr
  exact rm_A hS ⟨hB.os, hB.tape, hB.output, hB.size, hB.block⟩ hR hg
theorem rm_B' {n L r : Nat} {nb : List (List Int)} {c : Int} {w4 w5 f : World} {A : Option Addr} {cb : Nat} (hL : L = nb.length) (hr : r = w4.heap.size) (hR : Kd.R Kd.bool 4 f w4.drew.heap.size (fun _ => True) (.slice (some ⟨w4.drew.heap.size, 0, none⟩) n n) (List.replicate n false)) (hg : w4.drew.grownBy f none)
    (hS : Kd.S (Kd.slice 3 (Kd.int .i64)) 28 w5 f.heap.size (fun _ => True) (.slice A nb.length cb) nb) (hB : Below f.heap.size f w5) :
    RM n nb c w4 (((w5.alloc (.cells #[.slice A L cb] 50)).alloc (.cells #[.int .i64 c] 3)).alloc (.cells #[.slice (some ⟨r, 0, none⟩) n n] 37)) (w5.heap.size + 2) (w5.heap.size + 1) w5.heap.size r n cb f.heap.size w5.heap.size A := by
  subst hL hr
  exact rm_B hR ((grownBy_drew w4 none).trans hg) hS hB
end Go.Proofs.Ytihaddejjgaepaa.G

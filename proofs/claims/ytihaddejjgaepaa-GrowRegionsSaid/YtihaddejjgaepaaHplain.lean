/- Plain laws of regions. -/
import Derived.Test.YtihaddejjgaepaaHarnd
import Derived.Test.YtihaddejjgaepaaHgrow
import Derived.Test.YtihaddejjgaepaaHring
import Derived.Test.YtihaddejjgaepaaGFGrowCore
namespace Go.Proofs.Ytihaddejjgaepaa.G
set_option linter.unusedVariables false
set_option linter.unusedSimpArgs false
open Go.RowKit Go.Proofs.YtihaddejjgaepaaW.PrintWords Go.Proofs.YtihaddejjgaepaaW.PrintLast Go.Proofs.YtihaddejjgaepaaW.PrintMore

theorem strict_ext : ∀ {l1 l2 : List Int}, l1.Pairwise (· < ·) → l2.Pairwise (· < ·) → (∀ x, x ∈ l1 ↔ x ∈ l2) → l1 = l2
  | [], [], _, _, _ => rfl
  | [], b :: l2, _, _, h => absurd ((h b).2 (by simp)) (by simp)
  | a :: l1, [], _, _, h => absurd ((h a).1 (by simp)) (by simp)
  | a :: l1, b :: l2, h1, h2, h => by
    rw [List.pairwise_cons] at h1 h2
    have hab : a = b := by
      have ha := (h a).1 (by simp)
      have hb := (h b).2 (by simp)
      rcases List.mem_cons.1 ha with e | ha
      · exact e
      · rcases List.mem_cons.1 hb with e | hb
        · exact e.symm
        · have := h2.1 a ha
          have := h1.1 b hb
          omega
    subst hab
    rw [strict_ext h1.2 h2.2 (fun x => ?_)]
    have hx := h x
    simp only [List.mem_cons] at hx
    constructor
    · intro hx1
      rcases hx.1 (.inr hx1) with e | e
      · subst e; have := h1.1 x hx1; omega
      · exact e
    · intro hx1
      rcases hx.2 (.inr hx1) with e | e
      · subst e; have := h2.1 x hx1; omega
      · exact e
theorem sideOf_self {l : List Int} (h : l.Pairwise (· < ·)) : sideOf l = l := strict_ext (sideOf_strict l) h (sideOf_mem l)

theorem nbAt_nbG {n : Int} {ar : List S44} (v : Int) : nbAt (nbG n ar) v = (nbG n ar).getD v.toNat [] := rfl
theorem nbG_range {n : Int} {ar : List S44} (g : GOk n ar) (v : Int) : ∀ u ∈ nbAt (nbG n ar) v, 0 ≤ u ∧ u < (n.toNat : Int) := by
  intro u hu
  unfold nbAt at hu
  rw [List.getD_eq_getElem?_getD] at hu
  cases h : (nbG n ar)[v.toNat]? with
  | none => rw [h] at hu; simp at hu
  | some row =>
    rw [h] at hu
    have := (nbG_rows g row (List.mem_of_getElem? h)).2 u hu
    omega
/-- What is around a centre, in a right graph. -/
structure Around (n : Int) (ar : List S44) (c : Int) (L : List Int) : Prop where
  nodup : L.Nodup
  range : ∀ u ∈ L, 0 ≤ u ∧ u < n
  closed : ∀ v ∈ L, ∀ u, Adj ar v u → u ∈ L
  head : ∃ A, L = c :: A ∧ ∀ i (hi : i < A.length), ∃ v ∈ c :: A.take i, Adj ar v A[i]
theorem around_facts {n : Int} {ar : List S44} (g : GOk n ar) {c : Int} (h0 : 0 ≤ c) (h1 : c < n) : Around n ar c (aroundL (nbG n ar) (List.replicate n.toNat false) c).1 := by
  have hs : ((List.replicate n.toNat false).set c.toNat true).length = n.toNat := by simp
  obtain ⟨A, hA⟩ := arnd_spec (N := n.toNat) (nbG_range g) (outs ((List.replicate n.toNat false).set c.toNat true) + 1) ((List.replicate n.toNat false).set c.toNat true) [c] hs (by simp)
  have e : (aroundL (nbG n ar) (List.replicate n.toNat false) c).1 = c :: A := hA.out_eq
  rw [e]
  have hset : ∀ u, 0 ≤ u → u < n → isIn ((List.replicate n.toNat false).set c.toNat true) u = (u == c) := by
    intro u hu0 hu1
    rw [isIn_set (N := n.toNat) (by simp) c u (by omega) (by omega)]
    have : isIn (List.replicate n.toNat false) u = false := by
      simp only [isIn, List.getD_eq_getElem?_getD, List.getElem?_replicate]
      split <;> rfl
    rw [this, Bool.false_or]
  have hr : ∀ u ∈ c :: A, 0 ≤ u ∧ u < n := by
    intro u hu
    rcases List.mem_cons.1 hu with rfl | hu
    · exact ⟨h0, h1⟩
    · have := (hA.new u hu).1; omega
  refine ⟨List.nodup_cons.2 ⟨fun hc => ?_, hA.nodup⟩, hr, fun v hv u hu => ?_, A, rfl, fun i hi => ?_⟩
  · have := (hA.new c hc).2
    rw [hset c h0 h1] at this
    simp at this
  · have hv' := hr v hv
    have hur := hu.range g
    have h2 := hA.closed v (by simpa using hv) u (by rw [nbAt_nbG, nbG_mem g v u hv']; exact hu)
    rw [hA.fin_eq u hur.1 (by omega), hset u hur.1 hur.2] at h2
    simp only [Bool.or_eq_true, beq_iff_eq, List.contains_iff_mem] at h2
    exact List.mem_cons.2 h2
  · obtain ⟨v, hv, hm⟩ := hA.via i hi
    have hv2 : v ∈ c :: A.take i := by simpa using hv
    have hv' : 0 ≤ v ∧ v < n := hr v (by
      rcases List.mem_cons.1 hv2 with rfl | h
      · simp
      · exact List.mem_cons.2 (.inr (List.mem_of_mem_take h)))
    exact ⟨v, hv2, (nbG_mem g v _ hv').1 hm⟩

/-- A region, where Region tells one. -/
theorem region_at {n : Int} {ar : List S44} {c m : Int} {l : List Int} {e : Int} (h : grow_Region.f n ar c m = some (l, e)) : (e ≠ 0 ∧ l = []) ∨ (e = 0 ∧ GOk n ar ∧ (0 ≤ c ∧ c < n) ∧ (1 ≤ m ∧ m ≤ 1024) ∧ l = regionG n ar c m) := by
  unfold grow_Region.f at h
  split at h
  case isFalse => cases h
  replace h := Option.some.inj h
  split at h
  · rename_i hc
    obtain ⟨rfl, rfl⟩ := Prod.mk.inj h
    exact .inl ⟨hc, rfl⟩
  · rename_i hc
    have g := chk_ok.1 (Classical.not_not.1 hc)
    split at h
    · obtain ⟨rfl, rfl⟩ := Prod.mk.inj h
      exact .inl ⟨by decide, rfl⟩
    · split at h
      · obtain ⟨rfl, rfl⟩ := Prod.mk.inj h
        exact .inl ⟨by decide, rfl⟩
      · obtain ⟨rfl, rfl⟩ := Prod.mk.inj h
        exact .inr ⟨rfl, g, by omega, by omega, rfl⟩
theorem region_some {n : Int} {ar : List S44} (hw : wfArcs ar) (c m : Int) : ∃ l e, grow_Region.f n ar c m = some (l, e) := by
  unfold grow_Region.f
  rw [if_pos hw]
  exact ⟨_, _, rfl⟩
theorem regionG_sub {n : Int} {ar : List S44} (c m : Int) : (regionG n ar c m).Sublist (aroundL (nbG n ar) (List.replicate n.toNat false) c).1 := List.take_sublist _ _
theorem region_nodup {n : Int} {ar : List S44} (g : GOk n ar) {c : Int} (m : Int) (h0 : 0 ≤ c) (h1 : c < n) : (regionG n ar c m).Nodup := (around_facts g h0 h1).nodup.sublist (regionG_sub c m)
theorem region_range {n : Int} {ar : List S44} (g : GOk n ar) {c : Int} (m : Int) (h0 : 0 ≤ c) (h1 : c < n) : ∀ u ∈ regionG n ar c m, 0 ≤ u ∧ u < n := fun u hu => (around_facts g h0 h1).range u ((regionG_sub c m).subset hu)
/-- Of vertices, each once, there are no more than the graph has. -/
theorem nodup_len {N : Nat} {l : List Int} (h : l.Nodup) (hr : ∀ u ∈ l, 0 ≤ u ∧ u < (N : Int)) : l.length ≤ N := by
  have h1 : (l.map Int.toNat).Nodup := by
    rw [List.Nodup, List.pairwise_map]
    refine List.Pairwise.imp_of_mem (fun ha hb hab => ?_) h
    have := hr _ ha
    have := hr _ hb
    omega
  have h2 := List.Nodup.length_le_of_subset h1 (l₂ := List.range N) (fun x hx => by
    obtain ⟨u, hu, rfl⟩ := List.mem_map.1 hx
    have := hr u hu
    rw [List.mem_range]; omega)
  simpa using h2
end Go.Proofs.Ytihaddejjgaepaa.G

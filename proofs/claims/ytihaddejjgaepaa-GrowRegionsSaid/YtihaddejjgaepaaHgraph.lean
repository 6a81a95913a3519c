/- Plain graphs: what graph.Check, grow.sides come to. -/
import Derived.Test.YtihaddejjgaepaaHaround
import Derived.Test.YtihaddejjgaepaaHsides
import Derived.Test.YtihaddejjgaepaaGFGraphCheck
namespace Go.Proofs.Ytihaddejjgaepaa.G
set_option linter.unusedVariables false
set_option linter.unusedSimpArgs false
open Go.RowKit Go.Proofs.YtihaddejjgaepaaW.PrintWords Go.Proofs.YtihaddejjgaepaaW.PrintLast Go.Proofs.YtihaddejjgaepaaW.PrintMore

def wfI (x : Int) : Prop := -9223372036854775808 ≤ x ∧ x < 9223372036854775808
/-- Ends are numbers of 64 bits. -/
def wfArcs (ar : List S44) : Prop := ∀ a ∈ ar, wfI a.f0 ∧ wfI a.f1
instance (ar : List S44) : Decidable (wfArcs ar) := by unfold wfArcs wfI; exact inferInstance
def badArc (n : Int) (a : S44) : Bool := !(decide (0 ≤ a.f0) && decide (a.f0 < n) && decide (0 ≤ a.f1) && decide (a.f1 < n))
/-- graph.Check's answer. -/
def chk (n : Int) (ar : List S44) : Int × Int :=
  if n < 1 ∨ n > 1024 then (0, 1) else if ar.length > 8192 then (0, 2) else if ar.any (badArc n) = true then (((ar.findIdx (badArc n) : Nat) : Int), 30) else (0, 0)
/-- A right graph. -/
structure GOk (n : Int) (ar : List S44) : Prop where
  n1 : 1 ≤ n
  n2 : n ≤ 1024
  len : ar.length ≤ 8192
  arc : ∀ a ∈ ar, 0 ≤ a.f0 ∧ a.f0 < n ∧ 0 ≤ a.f1 ∧ a.f1 < n
theorem chk_ok {n : Int} {ar : List S44} : (chk n ar).2 = 0 ↔ GOk n ar := by
  unfold chk
  split
  · rename_i h
    constructor
    · intro h; exact absurd h (by decide)
    · intro g; have := g.n1; have := g.n2; omega
  · rename_i h1
    split
    · constructor
      · intro h; exact absurd h (by decide)
      · intro g; have := g.len; omega
    · rename_i h2
      split
      · rename_i h3
        constructor
        · intro h
          have h : (30 : Int) = 0 := h
          exact absurd h (by decide)
        · intro g
          obtain ⟨a, ha, hb⟩ := List.any_eq_true.1 h3
          have := g.arc a ha
          simp [badArc, this] at hb
      · rename_i h3
        refine ⟨fun _ => ⟨by omega, by omega, by omega, fun a ha => ?_⟩, fun _ => rfl⟩
        have : ¬ badArc n a = true := fun hb => h3 (List.any_eq_true.2 ⟨a, ha, hb⟩)
        simpa [badArc, and_assoc] using this
theorem chk_zero {n : Int} {ar : List S44} (h : GOk n ar) : chk n ar = (0, 0) := by
  have h2 := chk_ok.2 h
  unfold chk at h2 ⊢
  split
  · rename_i h1; simp [h1] at h2
  · rename_i h1
    split
    · rename_i h3; simp [h1, h3] at h2
    · rename_i h3
      split
      · rename_i h4; simp [h1, h3, h4] at h2
      · rfl

theorem u64_ge {n x : Int} (h1 : 1 ≤ n) (h2 : n ≤ 1024) (hx : wfI x) : (IntKind.u64.wrap x ≥ IntKind.u64.wrap n) ↔ ¬ (0 ≤ x ∧ x < n) := by
  obtain ⟨ha, hb⟩ := hx
  have e : ∀ y : Int, IntKind.u64.wrap y = y % 18446744073709551616 := fun y => by simp [IntKind.wrap, IntKind.signed, IntKind.bits]
  rw [e, e]
  omega
theorem graph_Check.l0_at {n : Int} {ar : List S44} (h1 : 1 ≤ n) (h2 : n ≤ 1024) (h3 : ar.length ≤ 8192) (hw : wfArcs ar) : ∀ (d j : Nat), j + d = ar.length → (∀ i (h : i < ar.length), i < j → badArc n ar[i] = false) →
    graph_Check.l0 (d + 1) ar (ar.length : Int) (j : Int) n ar = some (if ar.any (badArc n) = true then (((ar.findIdx (badArc n) : Nat) : Int), 30) else (0, 0)) := by
  intro d
  induction d with
  | zero =>
    intro j hj hb
    unfold graph_Check.l0
    rw [if_neg (by omega), if_neg]
    intro ha
    obtain ⟨a, ha, hb'⟩ := List.any_eq_true.1 ha
    obtain ⟨i, hi, rfl⟩ := List.getElem_of_mem ha
    rw [hb i hi (by omega)] at hb'
    cases hb'
  | succ d ih =>
    intro j hj hb
    have hjl : j < ar.length := by omega
    have hrd : rd_T44 ar (j : Int) = ar[j] := by simp [rd_T44, List.getD_eq_getElem?_getD, hjl]
    have hwj := hw ar[j] (List.getElem_mem hjl)
    unfold graph_Check.l0
    rw [if_pos (by omega), if_pos (by omega), if_pos (by omega), hrd]
    by_cases hbad : badArc n ar[j] = true
    · have hany : ar.any (badArc n) = true := List.any_eq_true.2 ⟨_, List.getElem_mem hjl, hbad⟩
      have hfi : ar.findIdx (badArc n) = j := by
        rw [List.findIdx_eq hjl]
        exact ⟨hbad, fun i hi => by rw [hb i (by omega) hi]⟩
      rw [if_pos hany, hfi]
      by_cases hf : IntKind.u64.wrap ar[j].f0 ≥ IntKind.u64.wrap n
      · rw [if_pos hf]
      · rw [if_neg hf, if_pos]
        rw [u64_ge h1 h2 hwj.2]
        rw [u64_ge h1 h2 hwj.1] at hf
        have hf' : 0 ≤ ar[j].f0 ∧ ar[j].f0 < n := by omega
        intro hg
        simp [badArc, hf', hg] at hbad
    · have hgood : 0 ≤ ar[j].f0 ∧ ar[j].f0 < n ∧ 0 ≤ ar[j].f1 ∧ ar[j].f1 < n := by simpa [badArc, and_assoc] using hbad
      rw [if_neg (by rw [u64_ge h1 h2 hwj.1]; omega), if_neg (by rw [u64_ge h1 h2 hwj.2]; omega)]
      have hw1 : wrap64 ((j : Int) + 1) = ((j + 1 : Nat) : Int) := by
        simp only [wrap64]
        omega
      rw [hw1]
      refine ih (j + 1) (by omega) (fun i hi hij => ?_)
      by_cases he : i = j
      · subst he; simpa using hbad
      · exact hb i hi (by omega)
theorem graph_Check_at {n : Int} {ar : List S44} (hw : wfArcs ar) : ∃ k, graph_Check.f k n ar = some (chk n ar) := by
  refine ⟨ar.length + 2, ?_⟩
  unfold graph_Check.f chk
  by_cases h1 : n < 1
  · rw [if_pos h1, if_pos (Or.inl h1), show ar.length + 2 = (ar.length + 1) + 1 from rfl, graph_Check.j0, if_pos rfl]
  · rw [if_neg h1, show ar.length + 2 = (ar.length + 1) + 1 from rfl, graph_Check.j0]
    by_cases h2 : n > 1024
    · rw [if_pos (decide_eq_true h2), if_pos (Or.inr h2)]
    · rw [if_neg (by simpa only [decide_eq_true_eq] using h2), if_neg (show ¬ (n < 1 ∨ n > 1024) by omega)]
      by_cases h3 : ar.length > 8192
      · rw [if_pos (by omega), if_pos h3]
      · rw [if_neg (by omega), if_neg h3]
        exact graph_Check.l0_at (by omega) (by omega) (by omega) hw ar.length 0 (by omega) (fun i h hi => by omega)

/-! ### the sides -/
def addSide (s : List (List Int)) (v u : Int) : List (List Int) := s.set v.toNat (s.getD v.toNat [] ++ [u])
def arcSides (s : List (List Int)) (a : S44) : List (List Int) := if a.f0 = a.f1 then s else addSide (addSide s a.f0 a.f1) a.f1 a.f0
def rawSides (n : Int) (ar : List S44) : List (List Int) := ar.foldl arcSides (List.replicate n.toNat [])
theorem addSide_length (s : List (List Int)) (v u : Int) : (addSide s v u).length = s.length := by simp [addSide]
theorem arcSides_length (s : List (List Int)) (a : S44) : (arcSides s a).length = s.length := by
  unfold arcSides; split
  · rfl
  · rw [addSide_length, addSide_length]
theorem foldSides_length (ar : List S44) : ∀ s : List (List Int), (ar.foldl arcSides s).length = s.length := by
  induction ar with
  | nil => intro s; rfl
  | cons a ar ih => intro s; rw [List.foldl_cons, ih, arcSides_length]
theorem rawSides_length (n : Int) (ar : List S44) : (rawSides n ar).length = n.toNat := by rw [rawSides, foldSides_length]; simp
theorem addSide_get (s : List (List Int)) (v u : Int) (i : Nat) (hi : i < s.length) : (addSide s v u).getD i [] = if v.toNat = i then s.getD i [] ++ [u] else s.getD i [] := by
  unfold addSide
  simp only [List.getD_eq_getElem?_getD, List.getElem?_set]
  split
  · rename_i h
    subst h
    rw [if_pos hi]
    rfl
  · rfl
theorem addSide_len (s : List (List Int)) (v u : Int) (m : Nat) (h : ∀ l ∈ s, l.length ≤ m) : ∀ l ∈ addSide s v u, l.length ≤ m + 1 := by
  intro l hl
  obtain ⟨i, hi, rfl⟩ := List.getElem_of_mem hl
  rw [addSide_length] at hi
  have h1 := addSide_get s v u i hi
  rw [List.getD_eq_getElem?_getD, List.getElem?_eq_getElem (by rw [addSide_length]; exact hi)] at h1
  have h2 : (s.getD i []).length ≤ m := by
    rw [List.getD_eq_getElem?_getD, List.getElem?_eq_getElem hi]
    exact h _ (List.getElem_mem hi)
  simp only [Option.getD_some] at h1
  rw [h1]
  split
  · rw [List.length_append, List.length_singleton]; omega
  · omega
theorem arcSides_len (s : List (List Int)) (a : S44) (m : Nat) (h : ∀ l ∈ s, l.length ≤ m) : ∀ l ∈ arcSides s a, l.length ≤ m + 2 := by
  unfold arcSides
  split
  · exact fun l hl => Nat.le_trans (h l hl) (by omega)
  · exact addSide_len _ _ _ _ (addSide_len _ _ _ _ h)
theorem foldSides_len (ar : List S44) : ∀ (s : List (List Int)) (m : Nat), (∀ l ∈ s, l.length ≤ m) → ∀ l ∈ ar.foldl arcSides s, l.length ≤ m + 2 * ar.length := by
  induction ar with
  | nil => intro s m h; simpa using h
  | cons a ar ih =>
    intro s m h l hl
    have := ih _ _ (arcSides_len s a m h) l hl
    rw [List.length_cons]; omega
theorem rawSides_len {n : Int} {ar : List S44} (g : GOk n ar) : ∀ l ∈ rawSides n ar, l.length ≤ 16384 := by
  intro l hl
  have := foldSides_len ar (List.replicate n.toNat []) 0 (by simp) l hl
  have := g.len
  omega
/-- Who lies beside whom, by arcs. -/
def Adj (ar : List S44) (v u : Int) : Prop := ∃ a ∈ ar, a.f0 ≠ a.f1 ∧ ((a.f0 = v ∧ a.f1 = u) ∨ (a.f1 = v ∧ a.f0 = u))
theorem arcSides_mem (n : Int) (s : List (List Int)) (a : S44) (hs : s.length = n.toNat) (ha : 0 ≤ a.f0 ∧ a.f0 < n ∧ 0 ≤ a.f1 ∧ a.f1 < n) (v u : Int) (hv : 0 ≤ v ∧ v < n) :
    u ∈ (arcSides s a).getD v.toNat [] ↔ u ∈ s.getD v.toNat [] ∨ (a.f0 ≠ a.f1 ∧ ((a.f0 = v ∧ a.f1 = u) ∨ (a.f1 = v ∧ a.f0 = u))) := by
  unfold arcSides
  split
  · rename_i h; simp [h]
  · rename_i h
    rw [addSide_get _ _ _ _ (by rw [addSide_length]; omega), addSide_get _ _ _ _ (by omega)]
    have e1 : (a.f0.toNat = v.toNat) ↔ a.f0 = v := by omega
    have e2 : (a.f1.toNat = v.toNat) ↔ a.f1 = v := by omega
    simp only [e1, e2]
    by_cases h1 : a.f1 = v <;> by_cases h0 : a.f0 = v <;> simp [h0, h1, h] <;> (try omega)
    all_goals (first | (intro; omega) | (constructor <;> (intro hh; rcases hh with hh | hh <;> simp_all)) | skip)
theorem foldSides_mem (n : Int) (ar : List S44) (v u : Int) (hv : 0 ≤ v ∧ v < n) : ∀ (s : List (List Int)), s.length = n.toNat → (∀ a ∈ ar, 0 ≤ a.f0 ∧ a.f0 < n ∧ 0 ≤ a.f1 ∧ a.f1 < n) →
    (u ∈ (ar.foldl arcSides s).getD v.toNat [] ↔ u ∈ s.getD v.toNat [] ∨ Adj ar v u) := by
  induction ar with
  | nil => intro s _ _; simp [Adj]
  | cons a ar ih =>
    intro s hs h
    rw [List.foldl_cons, ih _ (by rw [arcSides_length]; exact hs) (fun b hb => h b (by simp [hb])), arcSides_mem n s a hs (h a (by simp)) v u hv]
    constructor
    · rintro ((h1 | h1) | ⟨b, hb, h1⟩)
      · exact .inl h1
      · exact .inr ⟨a, by simp, h1⟩
      · exact .inr ⟨b, by simp [hb], h1⟩
    · rintro (h1 | ⟨b, hb, h1⟩)
      · exact .inl (.inl h1)
      · rcases List.mem_cons.1 hb with rfl | hb
        · exact .inl (.inr h1)
        · exact .inr ⟨b, hb, h1⟩
theorem rawSides_mem {n : Int} {ar : List S44} (g : GOk n ar) (v u : Int) (hv : 0 ≤ v ∧ v < n) : u ∈ (rawSides n ar).getD v.toNat [] ↔ Adj ar v u := by
  rw [rawSides, foldSides_mem n ar v u hv _ (by simp) g.arc]
  simp [List.getD_eq_getElem?_getD, List.getElem?_replicate]
  intro h
  split at h <;> simp at h

/-! ### what grow.sides comes to -/
theorem grow_sides.l0_at {n : Int} {ar : List S44} (g : GOk n ar) : ∀ (d j : Nat) (s : List (List Int)), j + d = ar.length → s.length = n.toNat → (∀ l ∈ s, l.length ≤ 2 * j) →
    grow_sides.l0 (d + 1) s ar (ar.length : Int) (j : Int) = some ((ar.drop j).foldl arcSides s) := by
  intro d
  induction d with
  | zero =>
    intro j s hj hs hl
    rw [grow_sides.l0, if_neg (by omega), List.drop_of_length_le (by omega)]
    rfl
  | succ d ih =>
    intro j s hj hs hl
    have hjl : j < ar.length := by omega
    have hg := g.len
    have hrd : rd_T44 ar (j : Int) = ar[j] := by simp [rd_T44, List.getD_eq_getElem?_getD, hjl]
    obtain ⟨ha, hb, hc, hd⟩ := g.arc _ (List.getElem_mem hjl)
    have hw1 : wrap64 ((j : Int) + 1) = ((j + 1 : Nat) : Int) := by
      simp only [wrap64]
      omega
    rw [grow_sides.l0, if_pos (by omega), if_pos (by omega), if_pos (by omega), hrd, List.drop_eq_getElem_cons hjl, List.foldl_cons, hw1]
    have hrow : ∀ (s' : List (List Int)) (v : Int) (m : Nat), (∀ l ∈ s', l.length ≤ m) → (s'.getD v.toNat []).length ≤ m := by
      intro s' v m h
      rw [List.getD_eq_getElem?_getD]
      cases h5 : s'[v.toNat]? with
      | none => simp
      | some l => exact h l (List.mem_of_getElem? h5)
    by_cases he : ar[j].f0 = ar[j].f1
    · rw [if_pos he, show arcSides s ar[j] = s from if_pos he]
      exact ih (j + 1) s (by omega) hs (fun l h => Nat.le_trans (hl l h) (by omega))
    · have h1 := hrow s ar[j].f0 _ hl
      have h2 := hrow (addSide s ar[j].f0 ar[j].f1) ar[j].f1 _ (addSide_len s _ _ _ hl)
      have e1 : (s.set (ar[j].f0).toNat (rd_L5 s ar[j].f0 ++ [ar[j].f1])) = addSide s ar[j].f0 ar[j].f1 := rfl
      have e2 : ∀ s', (s'.set (ar[j].f1).toNat (rd_L5 s' ar[j].f1 ++ [ar[j].f0])) = addSide s' ar[j].f1 ar[j].f0 := fun _ => rfl
      rw [if_neg he, if_pos ha, if_pos (by omega), if_pos (show (rd_L5 s ar[j].f0).length < _ from by unfold rd_L5; omega)]
      simp only [Option.bind_some]
      rw [e1, if_pos hc, if_pos (by omega), if_pos (show (rd_L5 (addSide s ar[j].f0 ar[j].f1) ar[j].f1).length < _ from by unfold rd_L5; omega), e2, show arcSides s ar[j] = addSide (addSide s ar[j].f0 ar[j].f1) ar[j].f1 ar[j].f0 from if_neg he]
      exact ih (j + 1) _ (by omega) (by rw [addSide_length, addSide_length]; exact hs) (fun l h => Nat.le_trans (addSide_len _ _ _ _ (addSide_len _ _ _ _ hl) l h) (by omega))
theorem grow_sides_at {n : Int} {ar : List S44} (g : GOk n ar) : ∃ k, grow_sides.rawf k n ar = some (rawSides n ar) := by
  have h1 := g.n1
  have h2 := g.n2
  refine ⟨ar.length + 1, ?_⟩
  unfold grow_sides.rawf
  rw [if_pos (by omega), if_pos (by omega)]
  exact grow_sides.l0_at g ar.length 0 _ (by omega) (by simp) (by simp)

/-! ### the neighbours -/
def nbG (n : Int) (ar : List S44) : List (List Int) := (rawSides n ar).map sideOf
theorem nbG_length (n : Int) (ar : List S44) : (nbG n ar).length = n.toNat := by rw [nbG, List.length_map, rawSides_length]

theorem isort_mem (l : List Int) (x : Int) : x ∈ isort l ↔ x ∈ l := (List.mergeSort_perm l _).mem_iff
theorem isort_sorted (l : List Int) : (isort l).Pairwise (· ≤ ·) := by
  have h := List.pairwise_mergeSort (le := fun x y : Int => decide (x ≤ y)) (fun a b c h1 h2 => by simp only [decide_eq_true_eq] at *; omega) (fun a b => by simp only [Bool.or_eq_true, decide_eq_true_eq]; omega) l
  exact h.imp (fun h => by simpa using h)
theorem compact_length (l : List Int) : (Lib.compact l).length ≤ l.length := by
  unfold Lib.compact Lib.compactUpTo
  rw [List.length_map]
  exact Nat.le_trans (List.length_filter_le _ _) (by simp)
theorem compact_mem (l : List Int) (x : Int) : x ∈ Lib.compact l ↔ x ∈ l := by
  unfold Lib.compact Lib.compactUpTo
  simp only [List.mem_map, List.mem_filter, List.mem_range]
  constructor
  · rintro ⟨i, ⟨hi, _⟩, rfl⟩
    simp [hi]
  · intro h
    refine ⟨l.idxOf x, ⟨List.idxOf_lt_length_of_mem h, ?_⟩, ?_⟩
    · have hi := List.idxOf_lt_length_of_mem h
      simp only [Lib.keeps, decide_eq_true_eq]
      by_cases h0 : l.idxOf x = 0
      · exact .inl h0
      · refine .inr ?_
        have e1 : l.toArray[l.idxOf x]! = x := by simp [hi]
        rw [e1]
        intro he
        have h1 : l.idxOf x - 1 < l.length := by omega
        have e2 : l.toArray[l.idxOf x - 1]! = l[l.idxOf x - 1] := by simp [h1]
        rw [e2] at he
        have := List.not_of_lt_findIdx (p := (· == x)) (xs := l) (i := l.idxOf x - 1) (by unfold List.idxOf at h0 ⊢; omega)
        simp [← he] at this
    · simp [List.idxOf_lt_length_of_mem h]
theorem compact_strict (l : List Int) (h : l.Pairwise (· ≤ ·)) : (Lib.compact l).Pairwise (· < ·) := by
  unfold Lib.compact Lib.compactUpTo
  rw [List.pairwise_map, List.pairwise_filter]
  refine List.pairwise_iff_getElem.2 (fun i j hi hj hij _ hk => ?_)
  simp only [List.length_range] at hi hj
  simp only [List.getElem_range] at hk ⊢
  simp only [Lib.keeps, decide_eq_true_eq] at hk
  have hk : l.toArray[j]! ≠ l.toArray[j - 1]! := hk.resolve_left (by omega)
  have e : ∀ (a : Nat) (ha : a < l.length), l.toArray[a]! = l[a] := fun a ha => by simp [ha]
  rw [e j hj, e (j - 1) (by omega)] at hk
  rw [e i hi, e j hj]
  have hm := List.pairwise_iff_getElem.1 h
  have h1 := hm (j - 1) j (by omega) hj (by omega)
  have h2 : l[i] ≤ l[j - 1] := by
    rcases Nat.lt_or_ge i (j - 1) with h3 | h3
    · exact hm i (j - 1) hi (by omega) h3
    · have : i = j - 1 := by omega
      subst this; exact Int.le_refl _
  omega
theorem sideOf_mem (l : List Int) (x : Int) : x ∈ sideOf l ↔ x ∈ l := by rw [sideOf, compact_mem, isort_mem]
theorem sideOf_strict (l : List Int) : (sideOf l).Pairwise (· < ·) := compact_strict _ (isort_sorted l)
theorem sideOf_length (l : List Int) : (sideOf l).length ≤ l.length := by
  have := compact_length (isort l)
  rw [isort_length] at this
  exact this
theorem nbG_get (n : Int) (ar : List S44) (v : Int) : (nbG n ar).getD v.toNat [] = sideOf ((rawSides n ar).getD v.toNat []) := by
  unfold nbG
  simp only [List.getD_eq_getElem?_getD, List.getElem?_map]
  cases (rawSides n ar)[v.toNat]? with
  | none => simp [sideOf, isort, Lib.compact, Lib.compactUpTo]
  | some l => simp
/-- Who lies beside v. -/
theorem nbG_mem {n : Int} {ar : List S44} (g : GOk n ar) (v u : Int) (hv : 0 ≤ v ∧ v < n) : u ∈ (nbG n ar).getD v.toNat [] ↔ Adj ar v u := by
  rw [nbG_get, sideOf_mem, rawSides_mem g v u hv]
theorem Adj.range {n : Int} {ar : List S44} (g : GOk n ar) {v u : Int} (h : Adj ar v u) : 0 ≤ u ∧ u < n := by
  obtain ⟨a, ha, _, h⟩ := h
  have := g.arc a ha
  omega
theorem nbG_rows {n : Int} {ar : List S44} (g : GOk n ar) : ∀ row ∈ nbG n ar, row.length ≤ 16384 ∧ ∀ u ∈ row, 0 ≤ u ∧ u < n := by
  intro row hrow
  obtain ⟨i, hi, rfl⟩ := List.getElem_of_mem hrow
  have hi' : i < n.toNat := by rwa [nbG_length] at hi
  have e : (nbG n ar).getD (i : Int).toNat [] = (nbG n ar)[i] := by
    rw [Int.toNat_natCast, List.getD_eq_getElem?_getD, List.getElem?_eq_getElem hi]; rfl
  refine ⟨?_, fun u hu => ?_⟩
  · rw [← e, nbG_get]
    refine Nat.le_trans (sideOf_length _) ?_
    rw [List.getD_eq_getElem?_getD]
    cases h : (rawSides n ar)[(i : Int).toNat]? with
    | none => simp
    | some l => exact rawSides_len g l (List.mem_of_getElem? h)
  · rw [← e, nbG_mem g (i : Int) u (by omega)] at hu
    exact hu.range g
theorem nbG_strict (n : Int) (ar : List S44) (v : Int) : ((nbG n ar).getD v.toNat []).Pairwise (· < ·) := by rw [nbG_get]; exact sideOf_strict _
end Go.Proofs.Ytihaddejjgaepaa.G

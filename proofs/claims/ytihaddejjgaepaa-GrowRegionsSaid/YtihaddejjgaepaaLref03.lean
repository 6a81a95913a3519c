/- The references' graphs and regions: what they come to. -/
import Derived.Test.YtihaddejjgaepaaLbase
import Derived.Test.YtihaddejjgaepaaGFFlyoverref03Check
import Derived.Test.YtihaddejjgaepaaGFFlyoverref03All
import Derived.Test.YtihaddejjgaepaaGFFlyoverref03Near
namespace Go.Proofs.Ytihaddejjgaepaa.G
set_option linter.unusedVariables false
set_option linter.unusedSimpArgs false
open Go.RowKit Go.Proofs.YtihaddejjgaepaaW.PrintWords Go.Proofs.YtihaddejjgaepaaW.PrintLast Go.Proofs.YtihaddejjgaepaaW.PrintMore

theorem rdArc_at {ar : List S44} {j : Nat} (h : j < ar.length) : rd_T44 ar (j : Int) = ar[j] := by simp [rd_T44, List.getD_eq_getElem?_getD, h]
/-! ### Check -/
theorem refCheck_l0 {n : Int} {ar : List S44} (h3 : ar.length ≤ 8192) : ∀ (d j : Nat), j + d = ar.length → (∀ i (h : i < ar.length), i < j → badArc n ar[i] = false) →
    flyoverref03_Check.l0 (d + 1) (j : Int) n ar = some (if ar.any (badArc n) = true then (((ar.findIdx (badArc n) : Nat) : Int), 30) else (0, 0)) := by
  intro d
  induction d with
  | zero =>
    intro j hj hb
    rw [flyoverref03_Check.l0, if_neg (by omega), if_neg]
    intro ha
    obtain ⟨a, ha, hb'⟩ := List.any_eq_true.1 ha
    obtain ⟨i, hi, rfl⟩ := List.getElem_of_mem ha
    rw [hb i hi (by omega)] at hb'
    cases hb'
  | succ d ih =>
    intro j hj hb
    have hjl : j < ar.length := by omega
    rw [flyoverref03_Check.l0, if_pos (by omega), if_pos (by omega), rdArc_at hjl]
    by_cases hbad : badArc n ar[j] = true
    · have hany : ar.any (badArc n) = true := List.any_eq_true.2 ⟨_, List.getElem_mem hjl, hbad⟩
      have hfi : ar.findIdx (badArc n) = j := by
        rw [List.findIdx_eq hjl]
        exact ⟨hbad, fun i hi => by rw [hb i (by omega) hi]⟩
      rw [if_pos hany, hfi]
      by_cases c1 : ar[j].f0 < 0
      · rw [if_pos c1]
      · rw [if_neg c1]
        by_cases c2 : ar[j].f0 ≥ n
        · rw [if_pos c2]
        · rw [if_neg c2]
          by_cases c3 : ar[j].f1 < 0
          · rw [if_pos c3]
          · rw [if_neg c3, if_pos]
            have h0 : 0 ≤ ar[j].f0 ∧ ar[j].f0 < n ∧ 0 ≤ ar[j].f1 := by omega
            by_cases c4 : ar[j].f1 < n
            · simp [badArc, h0, c4] at hbad
            · omega
    · have hgood : 0 ≤ ar[j].f0 ∧ ar[j].f0 < n ∧ 0 ≤ ar[j].f1 ∧ ar[j].f1 < n := by simpa [badArc, and_assoc] using hbad
      rw [if_neg (by omega), if_neg (by omega), if_neg (by omega), if_neg (by omega)]
      have hw1 : wrap64 ((j : Int) + 1) = ((j + 1 : Nat) : Int) := by
        simp only [wrap64]
        omega
      rw [hw1]
      refine ih (j + 1) (by omega) (fun i hi hij => ?_)
      by_cases he : i = j
      · subst he; simpa using hbad
      · exact hb i hi (by omega)
theorem refCheck_at (n : Int) (ar : List S44) : ∃ k, flyoverref03_Check.f k n ar = some (chk n ar) := by
  refine ⟨ar.length + 2, ?_⟩
  unfold flyoverref03_Check.f chk
  by_cases h1 : n < 1
  · rw [if_pos h1, if_pos (Or.inl h1), show ar.length + 2 = (ar.length + 1) + 1 from rfl, flyoverref03_Check.j0, if_pos rfl]
  · rw [if_neg h1, show ar.length + 2 = (ar.length + 1) + 1 from rfl, flyoverref03_Check.j0]
    by_cases h2 : n > 1024
    · rw [if_pos (decide_eq_true h2), if_pos (Or.inr h2)]
    · rw [if_neg (by simpa only [decide_eq_true_eq] using h2), if_neg (show ¬ (n < 1 ∨ n > 1024) by omega)]
      by_cases h3 : ar.length > 8192
      · rw [if_pos (by omega), if_pos h3]
      · rw [if_neg (by omega), if_neg h3]
        exact refCheck_l0 (by omega) ar.length 0 (by omega) (fun i h hi => by omega)

/-! ### All -/
def truesUpto (l : List Bool) (j : Nat) : List Int := ((List.range j).map (fun i : Nat => (i : Int))).filter (isIn l)
def trues (l : List Bool) : List Int := truesUpto l l.length
theorem truesUpto_succ (l : List Bool) (j : Nat) : truesUpto l (j + 1) = truesUpto l j ++ (if isIn l (j : Int) = true then [(j : Int)] else []) := by
  unfold truesUpto
  rw [List.range_succ, List.map_append, List.filter_append]
  congr 1
  simp [List.filter_cons]
theorem truesUpto_len (l : List Bool) (j : Nat) : (truesUpto l j).length ≤ j := by
  unfold truesUpto
  exact Nat.le_trans (List.length_filter_le _ _) (by simp)
theorem truesUpto_mem (l : List Bool) (j : Nat) (v : Int) : v ∈ truesUpto l j ↔ (0 ≤ v ∧ v < (j : Int)) ∧ isIn l v = true := by
  unfold truesUpto
  rw [List.mem_filter, List.mem_map]
  constructor
  · rintro ⟨⟨i, hi, rfl⟩, h⟩
    exact ⟨by have := List.mem_range.1 hi; omega, h⟩
  · rintro ⟨⟨h0, h1⟩, h⟩
    exact ⟨⟨v.toNat, List.mem_range.2 (by omega), by omega⟩, h⟩
theorem truesUpto_strict (l : List Bool) (j : Nat) : (truesUpto l j).Pairwise (· < ·) := by
  unfold truesUpto
  refine List.Pairwise.filter _ ?_
  rw [List.pairwise_map]
  exact List.pairwise_lt_range.imp (by intros; omega)
theorem trues_mem (l : List Bool) (v : Int) : v ∈ trues l ↔ (0 ≤ v ∧ v < (l.length : Int)) ∧ isIn l v = true := truesUpto_mem l l.length v
theorem trues_strict (l : List Bool) : (trues l).Pairwise (· < ·) := truesUpto_strict l l.length
theorem refAll_l0 (l : List Bool) (hl : l.length ≤ 1048576) : ∀ (d j : Nat), j + d = l.length → flyoverref03_All.l0 (d + 1) l (truesUpto l j) (j : Int) = some (trues l) := by
  intro d
  induction d with
  | zero =>
    intro j hj
    rw [flyoverref03_All.l0, if_neg (by omega)]
    have : j = l.length := by omega
    subst this
    rfl
  | succ d ih =>
    intro j hj
    have hw1 : wrap64 ((j : Int) + 1) = ((j + 1 : Nat) : Int) := by
      simp only [wrap64]
      omega
    have e1 : rdOf false l (j : Int) = isIn l (j : Int) := rfl
    have hlen := truesUpto_len l j
    have := ih (j + 1) (by omega)
    rw [truesUpto_succ] at this
    rw [flyoverref03_All.l0, if_pos (by omega), if_pos (by omega), e1, hw1]
    cases hb : isIn l (j : Int) with
    | true =>
      rw [hb] at this
      rw [if_pos rfl, if_pos (by omega)]
      exact this
    | false =>
      rw [hb] at this
      rw [if_neg (by simp)]
      simpa using this
theorem refAll_at (l : List Bool) (hl : l.length ≤ 1048576) : flyoverref03_All.f (l.length + 1) l = some (trues l) := refAll_l0 l hl l.length 0 (by omega)

/-! ### Near -/
def nearStep (v : Int) (s : List Bool) (a : S44) : List Bool := if a.f1 = v then (if a.f0 = v then s.set a.f1.toNat true else s).set a.f0.toNat true else (if a.f0 = v then s.set a.f1.toNat true else s)
theorem nearStep_length (v : Int) (s : List Bool) (a : S44) : (nearStep v s a).length = s.length := by unfold nearStep; split <;> split <;> simp
theorem nearFold_length (v : Int) (ar : List S44) : ∀ s : List Bool, (ar.foldl (nearStep v) s).length = s.length := by
  induction ar with
  | nil => intro s; rfl
  | cons a ar ih => intro s; rw [List.foldl_cons, ih, nearStep_length]
theorem nearStep_at {N : Nat} {s : List Bool} (hs : s.length = N) (v : Int) (a : S44) (ha : 0 ≤ a.f0 ∧ a.f0 < (N : Int) ∧ 0 ≤ a.f1 ∧ a.f1 < (N : Int)) (u : Int) (hu : 0 ≤ u ∧ u < (N : Int)) :
    isIn (nearStep v s a) u = true ↔ isIn s u = true ∨ (a.f0 = v ∧ a.f1 = u) ∨ (a.f1 = v ∧ a.f0 = u) := by
  unfold nearStep
  by_cases h0 : a.f0 = v
  · rw [if_pos h0]
    by_cases h1 : a.f1 = v
    · rw [if_pos h1, isIn_set (N := N) (by simp [hs]) _ _ ⟨ha.1, ha.2.1⟩ hu, isIn_set hs _ _ ⟨ha.2.2.1, ha.2.2.2⟩ hu]
      simp only [Bool.or_eq_true, beq_iff_eq]
      constructor
      · rintro ((h | h) | h)
        · exact .inl h
        · exact .inr (.inl ⟨h0, h.symm⟩)
        · exact .inr (.inr ⟨h1, h.symm⟩)
      · rintro (h | h | h)
        · exact .inl (.inl h)
        · exact .inl (.inr h.2.symm)
        · exact .inr h.2.symm
    · rw [if_neg h1, isIn_set hs _ _ ⟨ha.2.2.1, ha.2.2.2⟩ hu]
      simp only [Bool.or_eq_true, beq_iff_eq]
      constructor
      · rintro (h | h)
        · exact .inl h
        · exact .inr (.inl ⟨h0, h.symm⟩)
      · rintro (h | h | h)
        · exact .inl h
        · exact .inr h.2.symm
        · exact absurd h.1 h1
  · rw [if_neg h0]
    by_cases h1 : a.f1 = v
    · rw [if_pos h1, isIn_set hs _ _ ⟨ha.1, ha.2.1⟩ hu]
      simp only [Bool.or_eq_true, beq_iff_eq]
      constructor
      · rintro (h | h)
        · exact .inl h
        · exact .inr (.inr ⟨h1, h.symm⟩)
      · rintro (h | h | h)
        · exact .inl h
        · exact absurd h.1 h0
        · exact .inr h.2.symm
    · rw [if_neg h1]
      constructor
      · exact .inl
      · rintro (h | h | h)
        · exact h
        · exact absurd h.1 h0
        · exact absurd h.1 h1
theorem nearFold_at {N : Nat} (v u : Int) (hu : 0 ≤ u ∧ u < (N : Int)) (ar : List S44) : ∀ s : List Bool, s.length = N → (∀ a ∈ ar, 0 ≤ a.f0 ∧ a.f0 < (N : Int) ∧ 0 ≤ a.f1 ∧ a.f1 < (N : Int)) →
    (isIn (ar.foldl (nearStep v) s) u = true ↔ isIn s u = true ∨ ∃ a ∈ ar, (a.f0 = v ∧ a.f1 = u) ∨ (a.f1 = v ∧ a.f0 = u)) := by
  induction ar with
  | nil => intro s _ _; simp
  | cons a ar ih =>
    intro s hs h
    rw [List.foldl_cons, ih _ (by rw [nearStep_length]; exact hs) (fun b hb => h b (by simp [hb])), nearStep_at hs v a (h a (by simp)) u hu]
    constructor
    · rintro ((h | h) | ⟨b, hb, h⟩)
      · exact .inl h
      · exact .inr ⟨a, by simp, h⟩
      · exact .inr ⟨b, by simp [hb], h⟩
    · rintro (hh | ⟨b, hb, hh⟩)
      · exact .inl (.inl hh)
      · rcases List.mem_cons.1 hb with e | hb
        · rw [e] at hh
          exact .inl (.inr hh)
        · exact .inr ⟨b, hb, hh⟩
theorem refNear_l0 {n : Int} {ar : List S44} (g : GOk n ar) {v : Int} (h0 : 0 ≤ v) (h1 : v < n) : ∀ (d j : Nat) (s : List Bool), j + d = ar.length → s.length = n.toNat →
    flyoverref03_Near.l0 (d + 1) v s (j : Int) n ar = some (((ar.drop j).foldl (nearStep v) s).set v.toNat false) := by
  have hl := g.len
  intro d
  induction d with
  | zero =>
    intro j s hj hs
    rw [flyoverref03_Near.l0, if_neg (by omega), if_pos (by omega), if_pos (by omega), List.drop_of_length_le (by omega)]
    rfl
  | succ d ih =>
    intro j s hj hs
    have hjl : j < ar.length := by omega
    have hw1 : wrap64 ((j : Int) + 1) = ((j + 1 : Nat) : Int) := by
      simp only [wrap64]
      omega
    have ha := g.arc _ (List.getElem_mem hjl)
    rw [flyoverref03_Near.l0, if_pos (by omega), if_pos (by omega), rdArc_at hjl, hw1, List.drop_eq_getElem_cons hjl, List.foldl_cons]
    have := ih (j + 1) (nearStep v s ar[j]) (by omega) (by rw [nearStep_length]; exact hs)
    rw [← this]
    unfold nearStep
    by_cases c0 : ar[j].f0 = v
    · rw [if_pos c0, if_pos (by omega), if_pos (by omega), if_pos c0]
      simp only [Option.bind_some]
      by_cases c1 : ar[j].f1 = v
      · rw [if_pos c1, if_pos (by omega), if_pos (by omega), if_pos c1]
      · rw [if_neg c1, if_neg c1]
    · rw [if_neg c0, if_neg c0]
      by_cases c1 : ar[j].f1 = v
      · rw [if_pos c1, if_pos (by omega), if_pos (by omega), if_pos c1]
      · rw [if_neg c1, if_neg c1]
theorem isIn_setF {N : Nat} {s : List Bool} (hs : s.length = N) (v u : Int) (hv : 0 ≤ v ∧ v < (N : Int)) (hu : 0 ≤ u ∧ u < (N : Int)) : isIn (s.set v.toNat false) u = (isIn s u && !(u == v)) := by
  simp only [isIn, List.getD_eq_getElem?_getD, List.getElem?_set]
  by_cases hvu : v = u
  · subst hvu
    have : v.toNat < s.length := by omega
    simp [this]
  · have : ¬ v.toNat = u.toNat := by omega
    simp [this, Ne.symm hvu]
theorem isIn_replicate (N : Nat) (u : Int) : isIn (List.replicate N false) u = false := by
  simp only [isIn, List.getD_eq_getElem?_getD, List.getElem?_replicate]
  split <;> rfl
/-- The neighbours by the reference. -/
theorem refNear_at {n : Int} {ar : List S44} (g : GOk n ar) {v : Int} (h0 : 0 ≤ v) (h1 : v < n) : ∃ s, flyoverref03_Near.f (ar.length + 1) n ar v = some s ∧ s.length = n.toNat ∧ ∀ u, 0 ≤ u → u < n → (isIn s u = true ↔ Adj ar v u) := by
  have hn1 := g.n1
  have hn2 := g.n2
  refine ⟨(ar.foldl (nearStep v) (List.replicate n.toNat false)).set v.toNat false, ?_, ?_, fun u hu0 hu1 => ?_⟩
  · unfold flyoverref03_Near.f
    rw [if_pos (by omega), if_pos (by omega)]
    exact refNear_l0 g h0 h1 ar.length 0 _ (by omega) (by simp)
  · simp [nearFold_length]
  · rw [isIn_setF (N := n.toNat) (by simp [nearFold_length]) v u (by omega) (by omega), Bool.and_eq_true,
      nearFold_at (N := n.toNat) v u (by omega) ar _ (by simp) (fun a ha => by have := g.arc a ha; omega), isIn_replicate]
    unfold Adj
    simp only [Bool.false_eq_true, false_or, Bool.not_eq_true', beq_eq_false_iff_ne, ne_eq]
    constructor
    · rintro ⟨⟨a, ha, h⟩, hne⟩
      exact ⟨a, ha, by omega, h⟩
    · rintro ⟨a, ha, hne, h⟩
      exact ⟨⟨a, ha, h⟩, by omega⟩
theorem trues_row {n : Int} {ar : List S44} (g : GOk n ar) {v : Int} (h0 : 0 ≤ v) (h1 : v < n) {s : List Bool} (hs : s.length = n.toNat) (h : ∀ u, 0 ≤ u → u < n → (isIn s u = true ↔ Adj ar v u)) : trues s = (nbG n ar).getD v.toNat [] := by
  refine strict_ext (trues_strict s) (nbG_strict n ar v) (fun x => ?_)
  rw [trues_mem, nbG_mem g v x ⟨h0, h1⟩]
  constructor
  · rintro ⟨hx, hi⟩
    exact (h x (by omega) (by omega)).1 hi
  · intro ha
    have hr := ha.range g
    exact ⟨by omega, (h x hr.1 hr.2).2 ha⟩
end Go.Proofs.Ytihaddejjgaepaa.G

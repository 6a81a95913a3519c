/- GrowRing: the plain law. -/
import Derived.Test.YtihaddejjgaepaaHplain
import Derived.Test.YtihaddejjgaepaaGFFlyoverlaw07GrowRing
namespace Go.Proofs.Ytihaddejjgaepaa.G
set_option linter.unusedVariables false
set_option linter.unusedSimpArgs false
open Go.RowKit Go.Proofs.YtihaddejjgaepaaW.PrintWords Go.Proofs.YtihaddejjgaepaaW.PrintLast Go.Proofs.YtihaddejjgaepaaW.PrintMore

theorem wrap_nat {x : Int} (h0 : 0 ≤ x) (h1 : x < 1048576) : wrap64 (x + 1) = x + 1 := by simp only [wrap64]; omega
/-! ### graph.Neighbours -/
def rawNb (v : Int) : List S44 → List Int
  | [] => []
  | a :: ar => (if a.f0 = a.f1 then [] else if a.f0 = v then [a.f1] else if a.f1 = v then [a.f0] else []) ++ rawNb v ar
theorem rawNb_mem (v u : Int) : ∀ ar : List S44, u ∈ rawNb v ar ↔ Adj ar v u
  | [] => by simp [rawNb, Adj]
  | a :: ar => by
    have ih := rawNb_mem v u ar
    simp only [rawNb, List.mem_append]
    constructor
    · rintro (h | h)
      · refine ⟨a, by simp, ?_⟩
        split at h
        · simp at h
        · rename_i hne
          split at h
          · rename_i hv; simp at h; exact ⟨hne, .inl ⟨hv, h.symm⟩⟩
          · split at h
            · rename_i hv; simp at h; exact ⟨hne, .inr ⟨hv, h.symm⟩⟩
            · simp at h
      · obtain ⟨b, hb, h⟩ := ih.1 h
        exact ⟨b, by simp [hb], h⟩
    · rintro ⟨b, hb, hne, h⟩
      rcases List.mem_cons.1 hb with rfl | hb
      · refine .inl ?_
        rw [if_neg hne]
        rcases h with ⟨h1, h2⟩ | ⟨h1, h2⟩
        · rw [if_pos h1]; simp [h2]
        · rw [if_neg (by omega), if_pos h1]; simp [h2]
      · exact .inr (ih.2 ⟨b, hb, hne, h⟩)
theorem rawNb_len (v : Int) : ∀ ar : List S44, (rawNb v ar).length ≤ ar.length
  | [] => by simp [rawNb]
  | a :: ar => by
    have ih := rawNb_len v ar
    simp only [rawNb, List.length_append, List.length_cons]
    split
    · simp; omega
    · split
      · simp; omega
      · split <;> simp <;> omega
theorem rawNb_nbG {n : Int} {ar : List S44} (g : GOk n ar) (v : Int) (hv : 0 ≤ v ∧ v < n) : sideOf (rawNb v ar) = (nbG n ar).getD v.toNat [] :=
  strict_ext (sideOf_strict _) (nbG_strict n ar v) (fun x => by rw [sideOf_mem, rawNb_mem, nbG_mem g v x hv])
theorem neighbours_l0 {ar : List S44} (v : Int) (hl : ar.length ≤ 8192) : ∀ (d j : Nat) (acc : List Int), j + d = ar.length → acc.length ≤ j →
    graph_Neighbours.l0 (d + 1) v acc ar (ar.length : Int) (j : Int) = some (sideOf (acc ++ rawNb v (ar.drop j)), 0) := by
  intro d
  induction d with
  | zero =>
    intro j acc hj ha
    rw [graph_Neighbours.l0, if_neg (by omega), List.drop_of_length_le (by omega)]
    simp only [rawNb, List.append_nil]
    unfold slices_Sort_int_int.f
    rw [if_pos (by omega)]
    rfl
  | succ d ih =>
    intro j acc hj ha
    have hjl : j < ar.length := by omega
    have hrd : rd_T44 ar (j : Int) = ar[j] := by simp [rd_T44, List.getD_eq_getElem?_getD, hjl]
    have hw1 : wrap64 ((j : Int) + 1) = ((j + 1 : Nat) : Int) := wrap_nat (by omega) (by omega)
    rw [graph_Neighbours.l0, if_pos (by omega), if_pos (by omega), if_pos (by omega), hrd, List.drop_eq_getElem_cons hjl, hw1]
    simp only [rawNb]
    split
    · rw [ih (j + 1) acc (by omega) (by omega), List.nil_append]
    · split
      · rw [if_pos (by omega), ih (j + 1) _ (by omega) (by simp; omega), List.append_assoc]
      · split
        · rw [if_pos (by omega), ih (j + 1) _ (by omega) (by simp; omega), List.append_assoc]
        · rw [ih (j + 1) acc (by omega) (by omega), List.nil_append]
theorem looked_at {n : Int} {ar : List S44} (g : GOk n ar) (hw : wfArcs ar) {v : Int} (h0 : 0 ≤ v) (h1 : v < n) : ∃ k, graph_looked.f k n ar v = some 0 := by
  obtain ⟨k, hk⟩ := graph_Check_at (n := n) hw
  refine ⟨k, ?_⟩
  unfold graph_looked.f
  rw [hk, chk_zero g]
  simp only [Option.bind_some]
  rw [if_pos trivial, if_neg (by omega), if_neg (by omega)]
theorem neighbours_at {n : Int} {ar : List S44} (g : GOk n ar) (hw : wfArcs ar) {v : Int} (h0 : 0 ≤ v) (h1 : v < n) : ∃ k, graph_Neighbours.f k n ar v = some ((nbG n ar).getD v.toNat [], 0) := by
  obtain ⟨k, hk⟩ := looked_at g hw h0 h1
  have hl := neighbours_l0 (ar := ar) v g.len ar.length 0 [] (by omega) (by simp)
  have hm : ∀ j, LeO (graph_Neighbours.l0 j v [] ar (ar.length : Int) 0) (graph_Neighbours.l0 (j + 1) v [] ar (ar.length : Int) 0) := fun j => (graph_Neighbours.mono_l j) _ _ _ _ _
  refine ⟨max k (ar.length + 1), ?_⟩
  unfold graph_Neighbours.f
  rw [at_rounds (graph_looked.mono n ar v) (Nat.le_max_left _ _) hk]
  simp only [Option.bind_some]
  rw [if_pos trivial]
  have := at_rounds hm (Nat.le_max_right k (ar.length + 1)) hl
  rw [this]
  simp only [List.nil_append, List.drop_zero]
  rw [rawNb_nbG g v ⟨h0, h1⟩]

/-! ### the law's loops -/
theorem take_snoc {α : Type} (l : List α) (j : Nat) (h : j < l.length) : l.take (j + 1) = l.take j ++ [l[j]] := by rw [List.take_add_one, List.getElem?_eq_getElem h]; rfl
theorem marks_snoc (N : Nat) (l : List Int) (j : Nat) (h : j < l.length) : marksOf N (l.take (j + 1)) = (marksOf N (l.take j)).set (l[j]).toNat true := by
  rw [take_snoc l j h, marksOf, marksOf, setMarks, setMarks, List.foldl_append]; rfl
theorem rd_at (l : List Int) (j : Nat) (h : j < l.length) : rd l (j : Int) = l[j] := by simp [rd, List.getD_eq_getElem?_getD, h]
section
variable {n : Int} {ar : List S44} (g : GOk n ar) (hw : wfArcs ar) {ins ring : List Bool} (hin : ins.length = n.toNat) (hring : ring.length = n.toNat)
include g hin hring
theorem ring_l3 {v : Int} (hv : 0 ≤ v ∧ v < n) (row : List Int) (hrow : ∀ u ∈ row, 0 ≤ u ∧ u < n) (hrl : row.length ≤ 16384) (hok : isIn ins v = false → row.any (isIn ins) = isIn ring v)
    (next : ∃ k, flyoverlaw07_GrowRing.l2 k 0 ins ring n (v + 1) n ar = some true) : ∀ (d j : Nat), j + d = row.length →
    ∃ k, flyoverlaw07_GrowRing.l3 k 0 ins ring v 0 ((row.take j).any (isIn ins)) n v row (row.length : Int) (j : Int) n ar = some true := by
  have h1 := g.n1
  have h2 := g.n2
  intro d
  induction d with
  | zero =>
    intro j hj
    obtain ⟨k, hk⟩ := next
    refine ⟨k + 1, ?_⟩
    rw [List.take_of_length_le (by omega), flyoverlaw07_GrowRing.l3, if_neg (by omega), if_pos rfl, if_pos (by omega), if_pos (by omega)]
    have hw1 : wrap64 (v + 1) = v + 1 := wrap_nat (by omega) (by omega)
    have e1 : rdOf false ins v = isIn ins v := rfl
    have e2 : rdOf false ring v = isIn ring v := rfl
    rw [hw1, e1, e2]
    cases hb : isIn ins v with
    | true => rw [if_pos rfl]; exact hk
    | false =>
      rw [if_neg (by simp), if_pos (by omega), hok hb]
      simpa using hk
  | succ d ih =>
    intro j hj
    have hjl : j < row.length := by omega
    obtain ⟨k, hk⟩ := ih (j + 1) (by omega)
    refine ⟨k + 1, ?_⟩
    have hw1 : wrap64 ((j : Int) + 1) = ((j + 1 : Nat) : Int) := wrap_nat (by omega) (by omega)
    have hu := hrow _ (List.getElem_mem hjl)
    rw [flyoverlaw07_GrowRing.l3, if_pos (by omega), if_pos (by omega), if_pos (by omega), rd_at row j hjl, hw1]
    have ht : (row.take (j + 1)).any (isIn ins) = ((row.take j).any (isIn ins) || isIn ins row[j]) := by
      rw [take_snoc row j hjl, List.any_append]
      simp only [List.any_cons, List.any_nil, Bool.or_false]
    rw [ht] at hk
    cases hb : (row.take j).any (isIn ins) with
    | true => rw [hb] at hk; rw [if_pos rfl]; simpa using hk
    | false =>
      rw [hb, Bool.false_or] at hk
      rw [if_neg (by simp), if_pos (by omega), if_pos (by omega)]
      exact hk
include hw
theorem ring_l2 (hok : ∀ v : Int, 0 ≤ v → v < n → isIn ins v = false → ((nbG n ar).getD v.toNat []).any (isIn ins) = isIn ring v) : ∀ (d : Nat) (v : Int), 0 ≤ v → v + d = n →
    ∃ k, flyoverlaw07_GrowRing.l2 k 0 ins ring n v n ar = some true := by
  intro d
  induction d with
  | zero =>
    intro v h0 hd
    refine ⟨1, ?_⟩
    rw [flyoverlaw07_GrowRing.l2, if_neg (by omega)]
    rfl
  | succ d ih =>
    intro v h0 hd
    have hv : 0 ≤ v ∧ v < n := by omega
    have hrows : ∀ u ∈ (nbG n ar).getD v.toNat [], 0 ≤ u ∧ u < n := fun u hu => by
      have := nbG_range g v u hu
      omega
    have hrl : ((nbG n ar).getD v.toNat []).length ≤ 16384 := by
      rw [List.getD_eq_getElem?_getD]
      cases h : (nbG n ar)[v.toNat]? with
      | none => simp
      | some row => exact (nbG_rows g row (List.mem_of_getElem? h)).1
    obtain ⟨k3, h3⟩ := ring_l3 g hin hring hv ((nbG n ar).getD v.toNat []) hrows hrl (hok v hv.1 hv.2) (ih (v + 1) (by omega) (by omega)) _ 0 (Nat.zero_add _)
    obtain ⟨kn, hn⟩ := neighbours_at g hw hv.1 hv.2
    refine ⟨max kn k3 + 1, ?_⟩
    rw [flyoverlaw07_GrowRing.l2, if_pos (by omega), at_rounds (graph_Neighbours.mono n ar v) (Nat.le_max_left _ _) hn]
    simp only [Option.bind_some]
    exact at_rounds (fun k => (flyoverlaw07_GrowRing.mono_l k).2.2.2 _ _ _ _ _ _ _ _ _ _ _ _ _) (Nat.le_max_right kn k3) h3
end
theorem ring_l1 {n : Int} {ar : List S44} (hn : n ≤ 1024) {ins : List Bool} (hin : ins.length = n.toNat) (r : List Int) (hr : ∀ u ∈ r, (0 ≤ u ∧ u < n) ∧ isIn ins u = false) (hnd : r.Nodup) (hrl : r.length ≤ 1024)
    (next : ∃ k, flyoverlaw07_GrowRing.l2 k 0 ins (marksOf n.toNat r) n 0 n ar = some true) : ∀ (d j : Nat), j + d = r.length →
    ∃ k, flyoverlaw07_GrowRing.l1 k 0 ins (marksOf n.toNat (r.take j)) r (r.length : Int) (j : Int) n ar = some true := by
  intro d
  induction d with
  | zero =>
    intro j hj
    obtain ⟨k, hk⟩ := next
    refine ⟨k + 1, ?_⟩
    rw [List.take_of_length_le (by omega), flyoverlaw07_GrowRing.l1, if_neg (by omega)]
    exact hk
  | succ d ih =>
    intro j hj
    have hjl : j < r.length := by omega
    obtain ⟨k, hk⟩ := ih (j + 1) (by omega)
    refine ⟨k + 1, ?_⟩
    have hw1 : wrap64 ((j : Int) + 1) = ((j + 1 : Nat) : Int) := wrap_nat (by omega) (by omega)
    obtain ⟨hu, hni⟩ := hr _ (List.getElem_mem hjl)
    have hml : (marksOf n.toNat (r.take j)).length = n.toNat := by simp [marksOf, setMarks_length]
    have hnot : (r.take j).contains r[j] = false := by
      rw [Bool.eq_false_iff]
      intro h
      have h2 := List.contains_iff_mem.1 h
      obtain ⟨i, hi, he⟩ := List.getElem_of_mem h2
      rw [List.getElem_take] at he
      rw [List.length_take] at hi
      exact List.pairwise_iff_getElem.1 hnd i j (by omega) hjl (by omega) he
    have hm : isIn (marksOf n.toNat (r.take j)) r[j] = false := by
      rw [marksOf_at (fun x hx => by have := (hr x (List.mem_of_mem_take hx)).1; omega) _ hu.1 (by omega), hnot]
    have e1 : ∀ s, rdOf false s r[j] = isIn s r[j] := fun _ => rfl
    rw [flyoverlaw07_GrowRing.l1, if_pos (by omega), if_pos (by omega), if_pos (by omega), rd_at r j hjl, if_neg (by omega), if_neg (by omega), if_pos (by omega), if_pos (by omega), e1, hni, if_neg (by simp), if_pos (by omega), e1, hm, if_neg (by simp), hw1]
    rw [← marks_snoc n.toNat r j hjl]
    exact hk
theorem ring_l0 {n : Int} {ar : List S44} (r l : List Int) (hl : ∀ u ∈ l, 0 ≤ u ∧ u < n) (hll : l.length ≤ 1024)
    (next : ∃ k, flyoverlaw07_GrowRing.l1 k 0 (marksOf n.toNat l) (List.replicate n.toNat false) r (r.length : Int) 0 n ar = some true) : ∀ (d j : Nat), j + d = l.length →
    ∃ k, flyoverlaw07_GrowRing.l0 k r 0 (marksOf n.toNat (l.take j)) (List.replicate n.toNat false) l (l.length : Int) (j : Int) n ar = some true := by
  intro d
  induction d with
  | zero =>
    intro j hj
    obtain ⟨k, hk⟩ := next
    refine ⟨k + 1, ?_⟩
    rw [List.take_of_length_le (by omega), flyoverlaw07_GrowRing.l0, if_neg (by omega)]
    exact hk
  | succ d ih =>
    intro j hj
    have hjl : j < l.length := by omega
    obtain ⟨k, hk⟩ := ih (j + 1) (by omega)
    refine ⟨k + 1, ?_⟩
    have hw1 : wrap64 ((j : Int) + 1) = ((j + 1 : Nat) : Int) := wrap_nat (by omega) (by omega)
    have hu := hl _ (List.getElem_mem hjl)
    have hml : (marksOf n.toNat (l.take j)).length = n.toNat := by simp [marksOf, setMarks_length]
    rw [flyoverlaw07_GrowRing.l0, if_pos (by omega), if_pos (by omega), if_pos (by omega), rd_at l j hjl, if_pos (by omega), if_pos (by omega), hw1]
    rw [← marks_snoc n.toNat l j hjl]
    exact hk
theorem ringUpto_mem (nb : List (List Int)) (ins : List Bool) (j : Nat) (v : Int) : v ∈ ringUpto nb ins j ↔ (0 ≤ v ∧ v < (j : Int)) ∧ ringAt nb ins v = true := by
  unfold ringUpto
  rw [List.mem_filter, List.mem_map]
  constructor
  · rintro ⟨⟨i, hi, rfl⟩, h⟩
    exact ⟨by have := List.mem_range.1 hi; omega, h⟩
  · rintro ⟨⟨h0, h1⟩, h⟩
    exact ⟨⟨v.toNat, List.mem_range.2 (by omega), by omega⟩, h⟩
theorem ringUpto_strict (nb : List (List Int)) (ins : List Bool) (j : Nat) : (ringUpto nb ins j).Pairwise (· < ·) := by
  unfold ringUpto
  refine List.Pairwise.filter _ ?_
  rw [List.pairwise_map]
  exact List.pairwise_lt_range.imp (by intros; omega)
/-- Ring of a region. -/
theorem ring_some {n : Int} {ar : List S44} (g : GOk n ar) (hw : wfArcs ar) {l : List Int} (hl : ∀ u ∈ l, 0 ≤ u ∧ u < n) (hnd : l.Nodup) (hll : l.length ≤ 16384) : grow_Ring.f n ar l = some (ringG n ar l, 0) := by
  unfold grow_Ring.f
  rw [if_pos hw, if_neg (by simp [chk_ok.2 g]), if_neg (by omega), if_neg, if_neg (by simpa using hnd)]
  intro h
  obtain ⟨u, hu, h⟩ := List.any_eq_true.1 h
  have := hl u hu
  simp at h
  omega
end Go.Proofs.Ytihaddejjgaepaa.G

/- Small facts of lists and marks; Ring of a region. -/
import Derived.Test.YtihaddejjgaepaaHplain
namespace Go.Proofs.Ytihaddejjgaepaa.G
set_option linter.unusedVariables false
set_option linter.unusedSimpArgs false
open Go.RowKit Go.Proofs.YtihaddejjgaepaaW.PrintWords Go.Proofs.YtihaddejjgaepaaW.PrintLast Go.Proofs.YtihaddejjgaepaaW.PrintMore

theorem wrap_nat {x : Int} (h0 : 0 ≤ x) (h1 : x < 1048576) : wrap64 (x + 1) = x + 1 := by simp only [wrap64]; omega
theorem take_snoc {α : Type} (l : List α) (j : Nat) (h : j < l.length) : l.take (j + 1) = l.take j ++ [l[j]] := by rw [List.take_add_one, List.getElem?_eq_getElem h]; rfl
theorem marks_snoc (N : Nat) (l : List Int) (j : Nat) (h : j < l.length) : marksOf N (l.take (j + 1)) = (marksOf N (l.take j)).set (l[j]).toNat true := by
  rw [take_snoc l j h, marksOf, marksOf, setMarks, setMarks, List.foldl_append]; rfl
theorem rd_at (l : List Int) (j : Nat) (h : j < l.length) : rd l (j : Int) = l[j] := by simp [rd, List.getD_eq_getElem?_getD, h]
theorem ringUpto_mem (nb : List (List Int)) (ins : List Bool) (j : Nat) (v : Int) : v ∈ ringUpto nb ins j ↔ (0 ≤ v ∧ v < (j : Int)) ∧ ringAt nb ins v = true := by
  unfold ringUpto
  rw [List.mem_filter, List.mem_map]
  constructor
  · rintro ⟨⟨i, hi, rfl⟩, h⟩
    exact ⟨by have := List.mem_range.1 hi; omega, h⟩
  · rintro ⟨⟨h0, h1⟩, h⟩
    exact ⟨⟨v.toNat, List.mem_range.2 (by omega), by omega⟩, h⟩
theorem ringUpto_strict (nb : List (List Int)) (ins : List Bool) (j : Nat) : (ringUpto nb ins j).Pairwise (· < ·) := by
  unfold ringUpto
  refine List.Pairwise.filter _ ?_
  rw [List.pairwise_map]
  exact List.pairwise_lt_range.imp (by intros; omega)
/-- Ring of a region. -/
theorem ring_some {n : Int} {ar : List S44} (g : GOk n ar) (hw : wfArcs ar) {l : List Int} (hl : ∀ u ∈ l, 0 ≤ u ∧ u < n) (hnd : l.Nodup) (hll : l.length ≤ 16384) : grow_Ring.f n ar l = some (ringG n ar l, 0) := by
  unfold grow_Ring.f
  rw [if_pos hw, if_neg (by simp [chk_ok.2 g]), if_neg (by omega), if_neg, if_neg (by simpa using hnd)]
  intro h
  obtain ⟨u, hu, h⟩ := List.any_eq_true.1 h
  have := hl u hu
  simp at h
  omega
end Go.Proofs.Ytihaddejjgaepaa.G

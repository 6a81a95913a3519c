/- Chapter 7's first example is told. -/
import Derived.Test.YtihaddejjgaepaaLbase
import Derived.Test.YtihaddejjgaepaaGFFlyoverlaw07Works
namespace Go.Proofs.Ytihaddejjgaepaa.G
set_option linter.unusedVariables false
set_option linter.unusedSimpArgs false
open Go.RowKit Go.Proofs.YtihaddejjgaepaaW.PrintWords Go.Proofs.YtihaddejjgaepaaW.PrintLast Go.Proofs.YtihaddejjgaepaaW.PrintMore

def wg07 : List S44 := [⟨0, 1, 0⟩, ⟨2, 1, 0⟩, ⟨2, 3, 0⟩, ⟨4, 3, 0⟩]
theorem wg07_wf : wfArcs wg07 := by decide
theorem wg07_ok : GOk 5 wg07 := ⟨by decide, by decide, by decide, by decide⟩
theorem wg07_nb : nbG 5 wg07 = [[1], [0, 2], [1, 3], [2, 4], [3]] := by
  have e : rawSides 5 wg07 = [[1], [0, 2], [1, 3], [2, 4], [3]] := by decide
  unfold nbG
  rw [e]
  simp only [List.map_cons, List.map_nil]
  rw [sideOf_self (by decide), sideOf_self (by decide), sideOf_self (by decide), sideOf_self (by decide), sideOf_self (by decide)]
theorem wg07_region : grow_Region.f 5 wg07 2 4 = some ([2, 1, 3, 0], 0) := by
  unfold grow_Region.f
  rw [if_pos wg07_wf, if_neg (by simp [chk_ok.2 wg07_ok]), if_neg (by decide), if_neg (by decide)]
  unfold regionG
  rw [wg07_nb]
  rfl
theorem wg07_region5 : grow_Region.f 5 wg07 2 5 = some ([2, 1, 3, 0, 4], 0) := by
  unfold grow_Region.f
  rw [if_pos wg07_wf, if_neg (by simp [chk_ok.2 wg07_ok]), if_neg (by decide), if_neg (by decide)]
  unfold regionG
  rw [wg07_nb]
  rfl
theorem wg07_core : grow_Core.f 5 wg07 2 5 = some ([2, 1], 0) := by
  unfold grow_Core.f
  rw [wg07_region5]
  simp [slices_Clone_int_int.f, wrap64]
theorem wg07_ring : grow_Ring.f 5 wg07 [1, 2] = some ([0, 3], 0) := by
  rw [ring_some wg07_ok wg07_wf (by decide) (by decide) (by decide)]
  have e : ringG 5 wg07 [1, 2] = [0, 3] := by
    unfold ringG
    rw [wg07_nb]
    have em : marksOf (Int.toNat 5) [1, 2] = [false, true, true, false, false] := by decide
    rw [em]
    decide
  rw [e]
theorem same_4 : flyoverbook_SameInts.f 10 [2, 1, 3, 0] [2, 1, 3, 0] = some true := by simp [flyoverbook_SameInts.f, flyoverbook_SameInts.l0, rd, wrap64]
theorem same_2 : flyoverbook_SameInts.f 10 [2, 1] [2, 1] = some true := by simp [flyoverbook_SameInts.f, flyoverbook_SameInts.l0, rd, wrap64]
theorem same_2' : flyoverbook_SameInts.f 10 [0, 3] [0, 3] = some true := by simp [flyoverbook_SameInts.f, flyoverbook_SameInts.l0, rd, wrap64]
theorem bind_is {α β : Type} {o : Option α} {x : α} {f : α → Option β} {r : Option β} (h : o = some x) (hf : f x = r) : o.bind f = r := by subst h; exact hf
theorem works07_at : ∃ k, flyoverlaw07_works.f k = some true := by
  refine ⟨10, ?_⟩
  delta flyoverlaw07_works.f
  refine bind_is (x := wg07) rfl ?_
  show _ = _
  refine bind_is wg07_region ?_
  show _ = _
  refine bind_is wg07_core ?_
  show _ = _
  refine bind_is wg07_ring ?_
  show _ = _
  refine (if_pos rfl).trans (bind_is same_4 ?_)
  show _ = _
  refine (if_pos rfl).trans ((if_pos rfl).trans (bind_is same_2 ?_))
  show _ = _
  refine (if_pos rfl).trans ((if_pos rfl).trans (bind_is same_2' ?_))
  rfl
end Go.Proofs.Ytihaddejjgaepaa.G

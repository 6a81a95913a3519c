/- flyoverbook.SpoilInts' contract; a graph that is lent: what LendGraph lays, KeptGraph finds. -/
import Derived.Test.YtihaddejjgaepaaHlent
import Derived.Test.YtihaddejjgaepaaHbase
import Derived.RangeFuncBox
import Derived.Test.YtihaddejjgaepaaLref03
namespace Go.Proofs.Ytihaddejjgaepaa.G
set_option linter.unusedVariables false
set_option linter.unusedSimpArgs false
open Go.RowKit Go.Proofs.YtihaddejjgaepaaW.PrintWords Go.Proofs.YtihaddejjgaepaaW.PrintLast Go.Proofs.YtihaddejjgaepaaW.PrintMore

theorem sameGraph_l0 (n : Int) (ar : List S44) (hl : ar.length ≤ 6000000000000) : ∀ (d j : Nat), j + d = ar.length → flyoverbook_SameGraph.l0 (d + 1) (j : Int) n ar n ar = some true := by
  intro d
  induction d with
  | zero => intro j hj; rw [flyoverbook_SameGraph.l0, if_neg (by omega)]
  | succ d ih =>
    intro j hj
    have hw1 : wrap64 ((j : Int) + 1) = ((j + 1 : Nat) : Int) := by
      simp only [wrap64]
      omega
    rw [flyoverbook_SameGraph.l0, if_pos (by omega), if_pos (by omega), if_pos (by omega), if_neg (by simp), hw1]
    exact ih (j + 1) (by omega)
theorem sameGraph_at (n : Int) (ar : List S44) (hl : ar.length ≤ 6000000000000) : ∃ k, flyoverbook_SameGraph.f k n ar n ar = some true := by
  refine ⟨ar.length + 2, ?_⟩
  unfold flyoverbook_SameGraph.f
  rw [if_pos rfl, show ar.length + 2 = (ar.length + 1) + 1 from rfl, flyoverbook_SameGraph.j0, if_neg (by simp)]
  exact sameGraph_l0 n ar hl ar.length 0 (by omega)
theorem bindIs {α β : Type} {o : Option α} {x : α} {f : α → Option β} {r : Option β} (h : o = some x) (hf : f x = r) : o.bind f = r := by subst h; exact hf
/-- The mark behind the end. -/
def lentRow (ar : List S44) : List S44 := ar ++ [(⟨-77, 0, 0⟩ : S44)]
theorem lentRow_length (ar : List S44) : (lentRow ar).length = ar.length + 1 := by simp [lentRow]
theorem keptM_at (n : Int) (ar : List S44) (hl : ar.length ≤ 6000000000000) : ∃ k, flyoverbook_KeptGraph.fM k n ar (lentRow ar) n ar = some true := by
  obtain ⟨k, hk⟩ := sameGraph_at n ar hl
  refine ⟨k, ?_⟩
  have hw1 : wrap64 ((ar.length : Int) + 1) = ((ar.length + 1 : Nat) : Int) := by
    simp only [wrap64]
    omega
  have hL := lentRow_length ar
  have hlast : rd_T44 (lentRow ar) (ar.length : Int) = ⟨-77, 0, 0⟩ := by
    rw [rdArc_at (by omega)]
    simp [lentRow]
  have ht : (lentRow ar).take (ar.length + 1) = lentRow ar := List.take_of_length_le (by omega)
  have c1 : (0 : Int) ≤ ((ar.length + 1 : Nat) : Int) := by omega
  have c2 : ((ar.length + 1 : Nat) : Int) ≤ ((lentRow ar).length : Int) := by omega
  have c3 : (0 : Int) ≤ (ar.length : Int) := by omega
  have c4 : (ar.length : Int) < ((lentRow ar).length : Int) := by omega
  delta flyoverbook_KeptGraph.fM
  refine bindIs hk ?_
  show _ = _
  refine (if_pos rfl).trans ?_
  rw [hw1]
  refine (if_pos c1).trans ((if_pos c2).trans ?_)
  rw [Int.toNat_natCast, ht]
  refine bindIs rfl ?_
  show _ = _
  refine (if_pos c3).trans ((if_pos c4).trans ?_)
  rw [hlast]
  rfl
theorem lent_prefix {w : World} {A : Option Addr} {ar : List S44} (h : Kd.C k44 w A (lentRow ar).length (lentRow ar)) : Kd.C k44 w A ar.length ar := by
  have := Kd.C_take (m := ar.length) h (by rw [lentRow_length]; omega)
  have e : (lentRow ar).take ar.length = ar := by simp [lentRow]
  rwa [e] at this
theorem grown_set {w wr : World} {g : Nat} (h : w.grownBy wr (some g)) (j : Nat) (u : Value) : w.grownBy (wr.setCell ⟨g, j, none⟩ u) (some g) :=
  h.trans ⟨rfl, rfl, rfl, by simp [World.setCell], fun i hi hne => Below.heap_setCell wr ⟨g, j, none⟩ u i (fun e => hne (by rw [e]))⟩
set_option maxRecDepth 100000 in
set_option maxHeartbeats 1000000 in
theorem spoil_calls (m : Int) {base : Nat} {ok : Nat → Prop} (v : Value) (l : List Int) (w : World) (hR : Kd.R (Kd.int .i64) 3 w base ok v l) :
    Calls Try.prog 14 #[v, .int .i64 m] w fun e w' => e = .returned (.tuple #[]) ∧ w.grownBy w' v.ownBlock := by
  rcases hb_form hR with ⟨rfl, rfl⟩ | ⟨g, cap, cur, rfl, hb, hg, hok, hh, hn, hm, hs, ht⟩
  · have hu28 := Try.underlying28
    go_enter Try.func14, Try.ntmps14
    go_wp2
    refine wp_loop_rounds 1 ?_
    rw [rounds_succ]
    go_wp2
    go_end0
    exact ⟨rfl, ⟨rfl, rfl, rfl, Nat.le_refl _, fun _ _ _ => rfl⟩⟩
  · have hu28 := Try.underlying28
    simp only [maxLen] at hm
    obtain ⟨i0, hi0, _⟩ := info_parts info3
    have hcut := cut_cap (P := Try.prog) 28 3 .i64 Try.underlying28 hi0 (some ⟨g, 0, none⟩) l.length cap (cap : Int) (by omega) (Int.le_refl _)
    rw [Int.toNat_natCast] at hcut
    clear hR ht hi0
    have HH : Aside0 (∃ cs : Array Value, w.heap[g]? = some (.cells cs 3 (0, 0)) ∧ cs.size = cap) := ⟨cur, hh, hs⟩
    clear hh hs
    generalize l.length = n at *
    go_enter Try.func14, Try.ntmps14
    go_wp2
    go_loopw [4] (fun i wr => ∃ j : Nat, i = .int .i64 j ∧ j ≤ cap ∧ Aside0 (w.grownBy wr (some g)) ∧ Aside0 (∃ cs : Array Value, wr.heap[g]? = some (.cells cs 3 (0, 0)) ∧ cs.size = cap)) (fun i wr => cap - (intOf i).toNat)
    case atStart => exact ⟨0, rfl, Nat.zero_le _, ⟨⟨rfl, rfl, rfl, Nat.le_refl _, fun _ _ _ => rfl⟩⟩, HH⟩
    case round =>
      obtain ⟨j, rfl, hj, HG, HX⟩ := hrel
      clear HH
      by_cases hlt : j < cap
      · have hlt' : (j : Int) < (cap : Int) := by omega
        obtain ⟨cs, hcs, hcz⟩ := HX.out
        have hcell : wr.cell? ⟨g, j, none⟩ = some cs[j] := by
          have := blk_cell hcs j
          rw [this, Array.getElem?_eq_getElem (by omega)]
        have hfr := blk_frozen hcs j
        have HCS := Aside0.mk hcs
        have HCZ := Aside0.mk hcz
        generalize cs[j] = u0 at hcell
        clear hcs hcz HX
        go_wp2
        go_roundw
        case rel => exact ⟨j + 1, by go_num, hlt, ⟨grown_set HG.out _ _⟩, ⟨_, blk_set HCS.out _ _, by simpa using HCZ.out⟩⟩
        case measure => simp [intOf]; omega
      · have hlt' : ¬ (j : Int) < (cap : Int) := by omega
        go_wp2
        go_end0
        exact ⟨rfl, HG.out⟩
end Go.Proofs.Ytihaddejjgaepaa.G

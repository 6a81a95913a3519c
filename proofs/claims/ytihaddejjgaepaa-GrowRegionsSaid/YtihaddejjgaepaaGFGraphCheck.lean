-- printed by gprint.py (a wrapper of this session's round the kit's print)
import Derived.Test.YtihaddejjgaepaaGx0
namespace Go.Proofs.Ytihaddejjgaepaa.G
open Go.RowKit Go.Proofs.YtihaddejjgaepaaW.PrintWords Go.Proofs.YtihaddejjgaepaaW.PrintLast Go.Proofs.YtihaddejjgaepaaW.PrintMore
attribute [local go_sem] max2_int min2_int max_two min_two max_three min_three max_four min_four   -- for this text's walks alone
set_option linter.unusedVariables false
set_option linter.unusedSimpArgs false

/-! ### graph_Check: function 21 -/
mutual
def graph_Check.j0 : Nat → Bool → Int → List (S44) → Option (Int × Int)
  | 0, _, _, _ => none
  | k + 1, x13, x1002000, x1002001 => if x13 = true then (some (0, 1)) else (if (x1002001.length : Int) > 8192 then (some (0, 2)) else (graph_Check.l0 k x1002001 (x1002001.length : Int) 0 x1002000 x1002001))
def graph_Check.l0 : Nat → List (S44) → Int → Int → Int → List (S44) → Option (Int × Int)
  | 0, _, _, _, _, _ => none
  | k + 1, x19, x20, x21, x1002000, x1002001 => if x21 < x20 then (if 0 ≤ x21 then (if x21 < (x19.length : Int) then (if (IntKind.u64.wrap ((rd_T44 x19 x21).f0)) ≥ (IntKind.u64.wrap (x1002000)) then (some (x21, 30)) else (if (IntKind.u64.wrap ((rd_T44 x19 x21).f1)) ≥ (IntKind.u64.wrap (x1002000)) then (some (x21, 30)) else (graph_Check.l0 k x19 x20 (wrap64 (x21 + 1)) x1002000 x1002001))) else (none)) else (none)) else (some (0, 0))
end
def graph_Check.f (k : Nat) (a0_0 : Int) (l0_1 : List (S44)) : Option (Int × Int) := if a0_0 < 1 then (graph_Check.j0 k true a0_0 l0_1) else (graph_Check.j0 k (decide (a0_0 > 1024)) a0_0 l0_1)
theorem graph_Check.mono_l : ∀ k, (∀ y0 y1 y2, LeO (graph_Check.j0 k y0 y1 y2) (graph_Check.j0 (k + 1) y0 y1 y2)) ∧ (∀ y0 y1 y2 y3 y4, LeO (graph_Check.l0 k y0 y1 y2 y3 y4) (graph_Check.l0 (k + 1) y0 y1 y2 y3 y4))
  | 0 => ⟨fun _ _ _ r h => by simp [graph_Check.j0] at h, fun _ _ _ _ _ r h => by simp [graph_Check.l0] at h⟩
  | k + 1 => by
    obtain ⟨ih0, ih1⟩ := graph_Check.mono_l k
    refine ⟨?_, ?_⟩
    · intro y0 y1 y2
      unfold graph_Check.j0
      repeat' first
      | (with_reducible exact ih0 _ _ _)
      | (with_reducible exact ih1 _ _ _ _ _)
      | (with_reducible exact LeO.refl _)
      | (with_reducible exact LeO.none _)
      | (with_reducible refine LeO.ite ?_ ?_)
      | (with_reducible refine LeO.bind ?_ (fun _ => ?_))
      | exact ih0 _ _ _
      | exact ih1 _ _ _ _ _
      | exact LeO.none _
      | refine LeO.ite ?_ ?_
      | refine LeO.bind ?_ (fun _ => ?_)
    · intro y0 y1 y2 y3 y4
      unfold graph_Check.l0
      repeat' first
      | (with_reducible exact ih0 _ _ _)
      | (with_reducible exact ih1 _ _ _ _ _)
      | (with_reducible exact LeO.refl _)
      | (with_reducible exact LeO.none _)
      | (with_reducible refine LeO.ite ?_ ?_)
      | (with_reducible refine LeO.bind ?_ (fun _ => ?_))
      | exact ih0 _ _ _
      | exact ih1 _ _ _ _ _
      | exact LeO.none _
      | refine LeO.ite ?_ ?_
      | refine LeO.bind ?_ (fun _ => ?_)
theorem graph_Check.mono : ∀ a0 a1 k, LeO (graph_Check.f k a0 a1) (graph_Check.f (k + 1) a0 a1) := by
  intro a0 a1 k
  obtain ⟨ih0, ih1⟩ := graph_Check.mono_l k
  unfold graph_Check.f
  repeat' first
      | (with_reducible exact ih0 _ _ _)
      | (with_reducible exact ih1 _ _ _ _ _)
      | (with_reducible exact LeO.refl _)
      | (with_reducible exact LeO.none _)
      | (with_reducible refine LeO.ite ?_ ?_)
      | (with_reducible refine LeO.bind ?_ (fun _ => ?_))
      | exact ih0 _ _ _
      | exact ih1 _ _ _ _ _
      | exact LeO.none _
      | refine LeO.ite ?_ ?_
      | refine LeO.bind ?_ (fun _ => ?_)
set_option maxHeartbeats 8000000 in
set_option maxRecDepth 100000 in
theorem graph_Check.calls (k : Nat) (a0_0 : Int) (A0_1 : Option Addr) (c0_1 : Nat) (l0_1 : List (S44)) (r1 : Int) (r2 : Int) (w : World) (hr0_1 : Kd.C k44 w A0_1 l0_1.length l0_1) (hc0_1 : l0_1.length ≤ c0_1) (h : graph_Check.f k a0_0 l0_1 = some (r1, r2)) :
    Calls Try.prog 21 #[.agg #[.int .i64 a0_0, .slice A0_1 l0_1.length c0_1]] w fun e w' => e = .returned (.tuple #[.int .i64 r1, .int .i64 r2]) ∧ Below w.heap.size w w' := by
  have hu24 := Try.underlying24
  have hu44 := Try.underlying44
  have HR0_1 := Aside0.mk hr0_1
  have HC0_1 := Aside0.mk hc0_1
  clear hr0_1 hc0_1
  have HB := Aside0.mk (Below.refl w.heap.size w)
  have H : (if a0_0 < 1 then (graph_Check.j0 k true a0_0 l0_1) else (graph_Check.j0 k (decide (a0_0 > 1024)) a0_0 l0_1)) = some (r1, r2) := h
  clear h
  have HC2 := Aside0.mk H
  clear H
  go_enter Try.func21, Try.ntmps21
  go_upto_region 1 with (first | ((with_reducible refine gate_dst (N := 1) rfl ?_); refine box_event ?hg (N := 1) ?hd (cs := #[.int .i64 a0_0, .slice A0_1 l0_1.length c0_1]) (t := 24) ?hr ?_; (case hd => rfl); (case hg => rfl); (case hr => first | (go_simp; done) | (go_simp; rfl)); intro gb1001 hg w3 hbox hb; have n0_ := Aside0.mk (below_step (by repeat (first | (with_reducible first | exact HB.out | apply below_alloc | apply pw_below_drewN | apply below_drew1) | exact HB.out)) hb); have n1_ := Aside0.mk (hbox); have n2_ := Aside0.mk ((by rw [hg]; exact (below_size (by repeat (first | (with_reducible first | exact HB.out | apply below_alloc | apply pw_below_drewN | apply below_drew1) | exact HB.out))) : w.heap.size ≤ gb1001)); have n3_ := Aside0.mk ((by rw [hg]; exact (below_size (by repeat (first | (with_reducible first | exact HB.out | apply below_alloc | apply pw_below_drewN | apply below_drew1) | exact HB.out))) : w.heap.size ≤ gb1001)); clear HB; have HB := n0_; have BK1001 := n1_; have GW1001 := n2_; have GE1001 := n3_; clear n0_ n1_ n2_ n3_; clear hb hbox hg))
  (try simp only [Act.put, List.setIfInBounds_toArray, List.set_cons_zero, List.set_cons_succ])
  go_cut [13] (fun v13 wc => ∃ (kq : Nat) (x13_1 : Bool), v13 = .bool x13_1 ∧ Aside0 (graph_Check.j0 kq x13_1 a0_0 l0_1 = some (r1, r2)) ∧ Aside0 (kq ≤ k) ∧ Aside0 (wc.heap[gb1001]? = some (.cells #[.int .i64 a0_0, (.slice A0_1 l0_1.length c0_1)] 24 (0, 0))) ∧ Aside0 (Below w.heap.size w wc))
  case first =>
    have H := HC2.out
    clear HC2
    by_cases c4 : a0_0 < 1
    · rw [if_pos c4] at H
      have c4b0 : decide (a0_0 < 1) = true := decide_eq_true c4
      clear c4
      (first | rw [c4b0] | (simp only [i64_w, i32_w]; rw [c4b0]) | skip)
      have H' := Aside0.mk H
      clear H
      have hcz5_0 : w3.cell? ⟨gb1001, 0, none⟩ = some (.int .i64 a0_0) := (blk_cell BK1001.out 0).trans rfl
      have hcz5_1 : w3.cell? ⟨gb1001, 1, none⟩ = some (.slice A0_1 l0_1.length c0_1) := (blk_cell BK1001.out 1).trans rfl
      have hfz5_0 := blk_frozen BK1001.out 0
      have hfz5_1 := blk_frozen BK1001.out 1
      go_wp2
      go_meet
      case rel => exact ⟨_, (true), (by first | rfl | (simp; done) | (simp [*]; done)), H', ⟨by first | omega | exact Nat.le_refl _⟩, ⟨by (with_reducible repeat (first | refine blk_drewN ?_ _ | refine blk_drew ?_ | refine blk_alloc ?_ _)); exact BK1001.out⟩, ⟨by repeat (first | (with_reducible first | exact HB.out | apply below_alloc | apply pw_below_drewN | apply below_drew1 | refine below_set ?_ GE1001.out) | exact HB.out)⟩⟩
    · rw [if_neg c4] at H
      have c4b0 : decide (a0_0 < 1) = false := decide_eq_false c4
      clear c4
      (first | rw [c4b0] | (simp only [i64_w, i32_w]; rw [c4b0]) | skip)
      have H' := Aside0.mk H
      clear H
      have hcz6_0 : w3.cell? ⟨gb1001, 0, none⟩ = some (.int .i64 a0_0) := (blk_cell BK1001.out 0).trans rfl
      have hcz6_1 : w3.cell? ⟨gb1001, 1, none⟩ = some (.slice A0_1 l0_1.length c0_1) := (blk_cell BK1001.out 1).trans rfl
      have hfz6_0 := blk_frozen BK1001.out 0
      have hfz6_1 := blk_frozen BK1001.out 1
      go_wp2
      go_meet
      case rel => exact ⟨_, (decide (a0_0 > 1024)), (by first | rfl | (simp; done) | (simp [*]; done)), H', ⟨by first | omega | exact Nat.le_refl _⟩, ⟨by (with_reducible repeat (first | refine blk_drewN ?_ _ | refine blk_drew ?_ | refine blk_alloc ?_ _)); exact BK1001.out⟩, ⟨by repeat (first | (with_reducible first | exact HB.out | apply below_alloc | apply pw_below_drewN | apply below_drew1 | refine below_set ?_ GE1001.out) | exact HB.out)⟩⟩
  case rest =>
    clear HC2
    try clear c2
    try clear p2
    try clear c4
    try clear c4b0
    try clear hcz5_0
    try clear hcz5_1
    try clear hcz6_0
    try clear hcz6_1
    try clear hfz5_0
    try clear hfz5_1
    try clear hfz6_0
    try clear hfz6_1
    obtain ⟨kq, x13_1, rfl, HA, HJ1, BK1001, HB⟩ := hcut
    cases kq with
    | zero => exact absurd HA.out (by simp [graph_Check.j0])
    | succ kj1 =>
      have H := HA.out
      clear HA
      simp only [graph_Check.j0] at H
      by_cases c7 : x13_1 = true
      · subst c7
        have H1 : (some (0, 1)) = some (r1, r2) := by rw [if_pos rfl] at H; exact H
        clear H
        have H := H1
        clear H1
        simp only [Option.some.injEq, Prod.mk.injEq] at H
        obtain ⟨rfl, rfl⟩ := H
        go_wp2
        go_ret2
        exact ⟨by first | rfl | (simp [errW_none, errW_some] <;> rfl) | (simp [*, errW_none, errW_some] <;> rfl), by repeat (first | (with_reducible first | exact HB.out | apply below_alloc | apply pw_below_drewN | apply below_drew1 | refine below_set ?_ GE1001.out) | exact HB.out)⟩
      · replace c7 := Bool.eq_false_iff.mpr c7
        subst c7
        have H1 : (if (l0_1.length : Int) > 8192 then (some (0, 2)) else (graph_Check.l0 kj1 l0_1 (l0_1.length : Int) 0 a0_0 l0_1)) = some (r1, r2) := by rw [if_neg (show ¬ (false = true) by decide)] at H; exact H
        clear H
        have H := H1
        clear H1
        by_cases c8 : (l0_1.length : Int) > 8192
        · rw [if_pos c8] at H
          have c8b0 : decide (8192 < (l0_1.length : Int)) = true := decide_eq_true c8
          have c8b1 : decide (8192 < l0_1.length) = true := decide_eq_true (by omega)
          clear c8
          simp only [Option.some.injEq, Prod.mk.injEq] at H
          obtain ⟨rfl, rfl⟩ := H
          have hcz9_0 : wc.cell? ⟨gb1001, 0, none⟩ = some (.int .i64 a0_0) := (blk_cell BK1001.out 0).trans rfl
          have hcz9_1 : wc.cell? ⟨gb1001, 1, none⟩ = some (.slice A0_1 l0_1.length c0_1) := (blk_cell BK1001.out 1).trans rfl
          have hfz9_0 := blk_frozen BK1001.out 0
          have hfz9_1 := blk_frozen BK1001.out 1
          go_wp2
          go_ret2
          exact ⟨by first | rfl | (simp [errW_none, errW_some] <;> rfl) | (simp [*, errW_none, errW_some] <;> rfl), by repeat (first | (with_reducible first | exact HB.out | apply below_alloc | apply pw_below_drewN | apply below_drew1 | refine below_set ?_ GE1001.out) | exact HB.out)⟩
        · rw [if_neg c8] at H
          have c8b0 : decide (8192 < (l0_1.length : Int)) = false := decide_eq_false c8
          have c8b1 : decide (8192 < l0_1.length) = false := decide_eq_false (by omega)
          clear c8
          have H' := Aside0.mk H
          clear H
          have hcz10_0 : wc.cell? ⟨gb1001, 0, none⟩ = some (.int .i64 a0_0) := (blk_cell BK1001.out 0).trans rfl
          have hcz10_1 : wc.cell? ⟨gb1001, 1, none⟩ = some (.slice A0_1 l0_1.length c0_1) := (blk_cell BK1001.out 1).trans rfl
          have hfz10_0 := blk_frozen BK1001.out 0
          have hfz10_1 := blk_frozen BK1001.out 1
          go_wp2
          go_loopg [21] kj1 (fun kq v21 w' => ∃ (x21_2 : Int), v21 = .int .i64 x21_2 ∧ Aside0 (graph_Check.l0 kq l0_1 (l0_1.length : Int) x21_2 a0_0 l0_1 = some (r1, r2)) ∧ Aside0 (kq ≤ kj1) ∧ Aside0 (w'.heap[gb1001]? = some (.cells #[.int .i64 a0_0, (.slice A0_1 l0_1.length c0_1)] 24 (0, 0))) ∧ Aside0 (Below w.heap.size w w'))
          case atStart => exact ⟨(0), (by first | rfl | (simp; done) | (simp [*]; done)), H', ⟨Nat.le_refl _⟩, ⟨by (with_reducible repeat (first | refine blk_drewN ?_ _ | refine blk_drew ?_ | refine blk_alloc ?_ _)); exact BK1001.out⟩, ⟨by repeat (first | (with_reducible first | exact HB.out | apply below_alloc | apply pw_below_drewN | apply below_drew1 | refine below_set ?_ GE1001.out) | exact HB.out)⟩⟩
          case round =>
            clear H'
            try clear c2
            try clear p2
            try clear c4
            try clear c4b0
            try clear c7
            try clear c8
            try clear c8b0
            try clear c8b1
            try clear hcz10_0
            try clear hcz10_1
            try clear hcz5_0
            try clear hcz5_1
            try clear hcz6_0
            try clear hcz6_1
            try clear hcz9_0
            try clear hcz9_1
            try clear hfz10_0
            try clear hfz10_1
            try clear hfz5_0
            try clear hfz5_1
            try clear hfz6_0
            try clear hfz6_1
            try clear hfz9_0
            try clear hfz9_1
            try clear p2
            obtain ⟨x21_2, rfl, HA, HK2, BK1001, HB⟩ := hrel
            cases gk with
            | zero => exact absurd HA.out (by simp [graph_Check.l0])
            | succ k2 =>
              have H := HA.out
              clear HA
              simp only [graph_Check.l0] at H
              by_cases c11 : x21_2 < (l0_1.length : Int)
              · rw [if_pos c11] at H
                have c11b0 : decide (x21_2 < (l0_1.length : Int)) = true := decide_eq_true c11
                clear c11
                by_cases c12 : 0 ≤ x21_2
                · rw [if_pos c12] at H
                  have c12b0 : decide (0 ≤ x21_2) = true := decide_eq_true c12
                  clear c12
                  by_cases c13 : x21_2 < (l0_1.length : Int)
                  · rw [if_pos c13] at H
                    have c13b0 : decide (x21_2 < (l0_1.length : Int)) = true := decide_eq_true c13
                    clear c13
                    by_cases c14 : (IntKind.u64.wrap ((rd_T44 l0_1 x21_2).f0)) ≥ (IntKind.u64.wrap (a0_0))
                    · rw [if_pos c14] at H
                      have c14b0 : decide ((IntKind.u64.wrap (a0_0)) ≤ (IntKind.u64.wrap ((rd_T44 l0_1 x21_2).f0))) = true := decide_eq_true c14
                      clear c14
                      simp only [Option.some.injEq, Prod.mk.injEq] at H
                      obtain ⟨rfl, rfl⟩ := H
                      have p1002 : 0 ≤ (x21_2 : Int) := of_decide_eq_true (by first | (with_reducible assumption) | assumption)
                      have q1002 : x21_2 < (l0_1.length : Int) := of_decide_eq_true (by first | (with_reducible assumption) | assumption)
                      obtain ⟨ad1002, e1002, hx1002_0, hx1002_1, hx1002_2⟩ := at_T44 HR0_1.out x21_2 p1002 q1002
                      cases e1002
                      replace hx1002_0 := (HB.out.cell (World.block_lt_of_cell? w _ hx1002_0)).trans hx1002_0
                      replace hx1002_1 := (HB.out.cell (World.block_lt_of_cell? w _ hx1002_1)).trans hx1002_1
                      replace hx1002_2 := (HB.out.cell (World.block_lt_of_cell? w _ hx1002_2)).trans hx1002_2
                      replace p1002 := eq_true p1002
                      replace q1002 := eq_true q1002
                      go_wp2_with (first | ((with_reducible refine gate_dst (N := 5) rfl ?_); refine box_event ?hg (N := 5) ?hd (cs := #[.int .i64 0, .int .i64 0, .int .u32 0]) (t := 44) ?hr ?_; (case hd => rfl); (case hg => rfl); (case hr => first | (go_simp; done) | (go_simp; rfl)); intro gb1003 hg w15 hbox hb; have n0_ := Aside0.mk (blk_below (g := gb1001) (o := .cells #[.int .i64 a0_0, .slice (some ad1002) l0_1.length c0_1] 24 (0, 0)) (by (with_reducible repeat (first | refine blk_drewN ?_ _ | refine blk_drew ?_ | refine blk_alloc ?_ _)); exact BK1001.out) hb); have n1_ := Aside0.mk (below_step (by repeat (first | (with_reducible first | exact HB.out | apply below_alloc | apply pw_below_drewN | apply below_drew1 | refine below_set ?_ GE1001.out) | exact HB.out)) hb); have n2_ := Aside0.mk (hbox); have n3_ := Aside0.mk ((by rw [hg]; exact (below_size (by repeat (first | (with_reducible first | exact HB.out | apply below_alloc | apply pw_below_drewN | apply below_drew1 | refine below_set ?_ GE1001.out) | exact HB.out))) : w.heap.size ≤ gb1003)); have n4_ := Aside0.mk ((by rw [hg]; exact (below_size (by repeat (first | (with_reducible first | exact HB.out | apply below_alloc | apply pw_below_drewN | apply below_drew1 | refine below_set ?_ GE1001.out) | exact HB.out))) : w.heap.size ≤ gb1003)); have n5_ := Aside0.mk ((by rw [hg]; exact Nat.ne_of_lt (blk_lt (g := gb1001) (o := .cells #[.int .i64 a0_0, .slice (some ad1002) l0_1.length c0_1] 24 (0, 0)) (by (with_reducible repeat (first | refine blk_drewN ?_ _ | refine blk_drew ?_ | refine blk_alloc ?_ _)); exact BK1001.out)) : gb1001 ≠ gb1003)); have n6_ := Aside0.mk ((by rw [hg]; exact Nat.ne_of_gt (blk_lt (g := gb1001) (o := .cells #[.int .i64 a0_0, .slice (some ad1002) l0_1.length c0_1] 24 (0, 0)) (by (with_reducible repeat (first | refine blk_drewN ?_ _ | refine blk_drew ?_ | refine blk_alloc ?_ _)); exact BK1001.out)) : gb1003 ≠ gb1001)); clear BK1001; clear HB; have BK1001 := n0_; have HB := n1_; have BK1003 := n2_; have GW1003 := n3_; have GE1003 := n4_; have NB1001_1003 := n5_; have NB1003_1001 := n6_; clear n0_ n1_ n2_ n3_ n4_ n5_ n6_; clear hb hbox hg; have hnb16 := NB1003_1001.out; have hnc16 := NB1001_1003.out; have hcz17_0 : w15.cell? ⟨gb1003, 0, none⟩ = some (.int .i64 0) := (blk_cell BK1003.out 0).trans rfl; have hcz17_1 : w15.cell? ⟨gb1003, 1, none⟩ = some (.int .i64 0) := (blk_cell BK1003.out 1).trans rfl; have hcz17_2 : w15.cell? ⟨gb1003, 2, none⟩ = some (.int .u32 0) := (blk_cell BK1003.out 2).trans rfl; have hfz17_0 := blk_frozen BK1003.out 0; have hfz17_1 := blk_frozen BK1003.out 1; have hfz17_2 := blk_frozen BK1003.out 2; have hcz18_0 : w15.cell? ⟨gb1001, 0, none⟩ = some (.int .i64 a0_0) := (blk_cell BK1001.out 0).trans rfl; have hcz18_1 : w15.cell? ⟨gb1001, 1, none⟩ = some (.slice (some ad1002) l0_1.length c0_1) := (blk_cell BK1001.out 1).trans rfl; have hfz18_0 := blk_frozen BK1001.out 0; have hfz18_1 := blk_frozen BK1001.out 1))
                      go_ret2
                      exact ⟨by first | rfl | (simp [errW_none, errW_some] <;> rfl) | (simp [*, errW_none, errW_some] <;> rfl), by repeat (first | (with_reducible first | exact HB.out | apply below_alloc | apply pw_below_drewN | apply below_drew1 | refine below_set ?_ GE1001.out | refine below_set ?_ GE1003.out) | exact HB.out)⟩
                    · rw [if_neg c14] at H
                      have c14b0 : decide ((IntKind.u64.wrap (a0_0)) ≤ (IntKind.u64.wrap ((rd_T44 l0_1 x21_2).f0))) = false := decide_eq_false c14
                      clear c14
                      by_cases c19 : (IntKind.u64.wrap ((rd_T44 l0_1 x21_2).f1)) ≥ (IntKind.u64.wrap (a0_0))
                      · rw [if_pos c19] at H
                        have c19b0 : decide ((IntKind.u64.wrap (a0_0)) ≤ (IntKind.u64.wrap ((rd_T44 l0_1 x21_2).f1))) = true := decide_eq_true c19
                        clear c19
                        simp only [Option.some.injEq, Prod.mk.injEq] at H
                        obtain ⟨rfl, rfl⟩ := H
                        have p1002 : 0 ≤ (x21_2 : Int) := of_decide_eq_true (by first | (with_reducible assumption) | assumption)
                        have q1002 : x21_2 < (l0_1.length : Int) := of_decide_eq_true (by first | (with_reducible assumption) | assumption)
                        obtain ⟨ad1002, e1002, hx1002_0, hx1002_1, hx1002_2⟩ := at_T44 HR0_1.out x21_2 p1002 q1002
                        cases e1002
                        replace hx1002_0 := (HB.out.cell (World.block_lt_of_cell? w _ hx1002_0)).trans hx1002_0
                        replace hx1002_1 := (HB.out.cell (World.block_lt_of_cell? w _ hx1002_1)).trans hx1002_1
                        replace hx1002_2 := (HB.out.cell (World.block_lt_of_cell? w _ hx1002_2)).trans hx1002_2
                        replace p1002 := eq_true p1002
                        replace q1002 := eq_true q1002
                        go_wp2_with (first | ((with_reducible refine gate_dst (N := 5) rfl ?_); refine box_event ?hg (N := 5) ?hd (cs := #[.int .i64 0, .int .i64 0, .int .u32 0]) (t := 44) ?hr ?_; (case hd => rfl); (case hg => rfl); (case hr => first | (go_simp; done) | (go_simp; rfl)); intro gb1003 hg w20 hbox hb; have n0_ := Aside0.mk (blk_below (g := gb1001) (o := .cells #[.int .i64 a0_0, .slice (some ad1002) l0_1.length c0_1] 24 (0, 0)) (by (with_reducible repeat (first | refine blk_drewN ?_ _ | refine blk_drew ?_ | refine blk_alloc ?_ _)); exact BK1001.out) hb); have n1_ := Aside0.mk (below_step (by repeat (first | (with_reducible first | exact HB.out | apply below_alloc | apply pw_below_drewN | apply below_drew1 | refine below_set ?_ GE1001.out) | exact HB.out)) hb); have n2_ := Aside0.mk (hbox); have n3_ := Aside0.mk ((by rw [hg]; exact (below_size (by repeat (first | (with_reducible first | exact HB.out | apply below_alloc | apply pw_below_drewN | apply below_drew1 | refine below_set ?_ GE1001.out) | exact HB.out))) : w.heap.size ≤ gb1003)); have n4_ := Aside0.mk ((by rw [hg]; exact (below_size (by repeat (first | (with_reducible first | exact HB.out | apply below_alloc | apply pw_below_drewN | apply below_drew1 | refine below_set ?_ GE1001.out) | exact HB.out))) : w.heap.size ≤ gb1003)); have n5_ := Aside0.mk ((by rw [hg]; exact Nat.ne_of_lt (blk_lt (g := gb1001) (o := .cells #[.int .i64 a0_0, .slice (some ad1002) l0_1.length c0_1] 24 (0, 0)) (by (with_reducible repeat (first | refine blk_drewN ?_ _ | refine blk_drew ?_ | refine blk_alloc ?_ _)); exact BK1001.out)) : gb1001 ≠ gb1003)); have n6_ := Aside0.mk ((by rw [hg]; exact Nat.ne_of_gt (blk_lt (g := gb1001) (o := .cells #[.int .i64 a0_0, .slice (some ad1002) l0_1.length c0_1] 24 (0, 0)) (by (with_reducible repeat (first | refine blk_drewN ?_ _ | refine blk_drew ?_ | refine blk_alloc ?_ _)); exact BK1001.out)) : gb1003 ≠ gb1001)); clear BK1001; clear HB; have BK1001 := n0_; have HB := n1_; have BK1003 := n2_; have GW1003 := n3_; have GE1003 := n4_; have NB1001_1003 := n5_; have NB1003_1001 := n6_; clear n0_ n1_ n2_ n3_ n4_ n5_ n6_; clear hb hbox hg; have hnb21 := NB1003_1001.out; have hnc21 := NB1001_1003.out; have hcz22_0 : w20.cell? ⟨gb1003, 0, none⟩ = some (.int .i64 0) := (blk_cell BK1003.out 0).trans rfl; have hcz22_1 : w20.cell? ⟨gb1003, 1, none⟩ = some (.int .i64 0) := (blk_cell BK1003.out 1).trans rfl; have hcz22_2 : w20.cell? ⟨gb1003, 2, none⟩ = some (.int .u32 0) := (blk_cell BK1003.out 2).trans rfl; have hfz22_0 := blk_frozen BK1003.out 0; have hfz22_1 := blk_frozen BK1003.out 1; have hfz22_2 := blk_frozen BK1003.out 2; have hcz23_0 : w20.cell? ⟨gb1001, 0, none⟩ = some (.int .i64 a0_0) := (blk_cell BK1001.out 0).trans rfl; have hcz23_1 : w20.cell? ⟨gb1001, 1, none⟩ = some (.slice (some ad1002) l0_1.length c0_1) := (blk_cell BK1001.out 1).trans rfl; have hfz23_0 := blk_frozen BK1001.out 0; have hfz23_1 := blk_frozen BK1001.out 1))
                        go_ret2
                        exact ⟨by first | rfl | (simp [errW_none, errW_some] <;> rfl) | (simp [*, errW_none, errW_some] <;> rfl), by repeat (first | (with_reducible first | exact HB.out | apply below_alloc | apply pw_below_drewN | apply below_drew1 | refine below_set ?_ GE1001.out | refine below_set ?_ GE1003.out) | exact HB.out)⟩
                      · rw [if_neg c19] at H
                        have c19b0 : decide ((IntKind.u64.wrap (a0_0)) ≤ (IntKind.u64.wrap ((rd_T44 l0_1 x21_2).f1))) = false := decide_eq_false c19
                        clear c19
                        have H' := Aside0.mk H
                        clear H
                        have p1002 : 0 ≤ (x21_2 : Int) := of_decide_eq_true (by first | (with_reducible assumption) | assumption)
                        have q1002 : x21_2 < (l0_1.length : Int) := of_decide_eq_true (by first | (with_reducible assumption) | assumption)
                        obtain ⟨ad1002, e1002, hx1002_0, hx1002_1, hx1002_2⟩ := at_T44 HR0_1.out x21_2 p1002 q1002
                        cases e1002
                        replace hx1002_0 := (HB.out.cell (World.block_lt_of_cell? w _ hx1002_0)).trans hx1002_0
                        replace hx1002_1 := (HB.out.cell (World.block_lt_of_cell? w _ hx1002_1)).trans hx1002_1
                        replace hx1002_2 := (HB.out.cell (World.block_lt_of_cell? w _ hx1002_2)).trans hx1002_2
                        replace p1002 := eq_true p1002
                        replace q1002 := eq_true q1002
                        go_wp2_with (first | ((with_reducible refine gate_dst (N := 5) rfl ?_); refine box_event ?hg (N := 5) ?hd (cs := #[.int .i64 0, .int .i64 0, .int .u32 0]) (t := 44) ?hr ?_; (case hd => rfl); (case hg => rfl); (case hr => first | (go_simp; done) | (go_simp; rfl)); intro gb1003 hg w24 hbox hb; have n0_ := Aside0.mk (blk_below (g := gb1001) (o := .cells #[.int .i64 a0_0, .slice (some ad1002) l0_1.length c0_1] 24 (0, 0)) (by (with_reducible repeat (first | refine blk_drewN ?_ _ | refine blk_drew ?_ | refine blk_alloc ?_ _)); exact BK1001.out) hb); have n1_ := Aside0.mk (below_step (by repeat (first | (with_reducible first | exact HB.out | apply below_alloc | apply pw_below_drewN | apply below_drew1 | refine below_set ?_ GE1001.out) | exact HB.out)) hb); have n2_ := Aside0.mk (hbox); have n3_ := Aside0.mk ((by rw [hg]; exact (below_size (by repeat (first | (with_reducible first | exact HB.out | apply below_alloc | apply pw_below_drewN | apply below_drew1 | refine below_set ?_ GE1001.out) | exact HB.out))) : w.heap.size ≤ gb1003)); have n4_ := Aside0.mk ((by rw [hg]; exact (below_size (by repeat (first | (with_reducible first | exact HB.out | apply below_alloc | apply pw_below_drewN | apply below_drew1 | refine below_set ?_ GE1001.out) | exact HB.out))) : w.heap.size ≤ gb1003)); have n5_ := Aside0.mk ((by rw [hg]; exact Nat.ne_of_lt (blk_lt (g := gb1001) (o := .cells #[.int .i64 a0_0, .slice (some ad1002) l0_1.length c0_1] 24 (0, 0)) (by (with_reducible repeat (first | refine blk_drewN ?_ _ | refine blk_drew ?_ | refine blk_alloc ?_ _)); exact BK1001.out)) : gb1001 ≠ gb1003)); have n6_ := Aside0.mk ((by rw [hg]; exact Nat.ne_of_gt (blk_lt (g := gb1001) (o := .cells #[.int .i64 a0_0, .slice (some ad1002) l0_1.length c0_1] 24 (0, 0)) (by (with_reducible repeat (first | refine blk_drewN ?_ _ | refine blk_drew ?_ | refine blk_alloc ?_ _)); exact BK1001.out)) : gb1003 ≠ gb1001)); clear BK1001; clear HB; have BK1001 := n0_; have HB := n1_; have BK1003 := n2_; have GW1003 := n3_; have GE1003 := n4_; have NB1001_1003 := n5_; have NB1003_1001 := n6_; clear n0_ n1_ n2_ n3_ n4_ n5_ n6_; clear hb hbox hg; have hnb25 := NB1003_1001.out; have hnc25 := NB1001_1003.out; have hcz26_0 : w24.cell? ⟨gb1003, 0, none⟩ = some (.int .i64 0) := (blk_cell BK1003.out 0).trans rfl; have hcz26_1 : w24.cell? ⟨gb1003, 1, none⟩ = some (.int .i64 0) := (blk_cell BK1003.out 1).trans rfl; have hcz26_2 : w24.cell? ⟨gb1003, 2, none⟩ = some (.int .u32 0) := (blk_cell BK1003.out 2).trans rfl; have hfz26_0 := blk_frozen BK1003.out 0; have hfz26_1 := blk_frozen BK1003.out 1; have hfz26_2 := blk_frozen BK1003.out 2; have hcz27_0 : w24.cell? ⟨gb1001, 0, none⟩ = some (.int .i64 a0_0) := (blk_cell BK1001.out 0).trans rfl; have hcz27_1 : w24.cell? ⟨gb1001, 1, none⟩ = some (.slice (some ad1002) l0_1.length c0_1) := (blk_cell BK1001.out 1).trans rfl; have hfz27_0 := blk_frozen BK1001.out 0; have hfz27_1 := blk_frozen BK1001.out 1))
                        go_roundg k2
                        case measure => have := HJ1.out; have := HK2.out; omega
                        case rel => exact ⟨(wrap64 (x21_2 + 1)), (by first | rfl | (simp; done) | (simp [*]; done)), H', ⟨by have := HJ1.out; have := HK2.out; omega⟩, ⟨by (with_reducible repeat (first | refine blk_drewN ?_ _ | refine blk_drew ?_ | refine blk_alloc ?_ _)); refine blk_far ?_ NB1001_1003.out _; (with_reducible repeat (first | refine blk_drewN ?_ _ | refine blk_drew ?_ | refine blk_alloc ?_ _)); refine blk_far ?_ NB1001_1003.out _; (with_reducible repeat (first | refine blk_drewN ?_ _ | refine blk_drew ?_ | refine blk_alloc ?_ _)); refine blk_far ?_ NB1001_1003.out _; (with_reducible repeat (first | refine blk_drewN ?_ _ | refine blk_drew ?_ | refine blk_alloc ?_ _)); exact BK1001.out⟩, ⟨by repeat (first | (with_reducible first | exact HB.out | apply below_alloc | apply pw_below_drewN | apply below_drew1 | refine below_set ?_ GE1001.out | refine below_set ?_ GE1003.out) | exact HB.out)⟩⟩
                  · rw [if_neg c13] at H
                    exact absurd H (by simp)
                · rw [if_neg c12] at H
                  exact absurd H (by simp)
              · rw [if_neg c11] at H
                have c11b0 : decide (x21_2 < (l0_1.length : Int)) = false := decide_eq_false c11
                clear c11
                simp only [Option.some.injEq, Prod.mk.injEq] at H
                obtain ⟨rfl, rfl⟩ := H
                go_wp2
                go_ret2
                exact ⟨by first | rfl | (simp [errW_none, errW_some] <;> rfl) | (simp [*, errW_none, errW_some] <;> rfl), by repeat (first | (with_reducible first | exact HB.out | apply below_alloc | apply pw_below_drewN | apply below_drew1 | refine below_set ?_ GE1001.out) | exact HB.out)⟩

end Go.Proofs.Ytihaddejjgaepaa.G

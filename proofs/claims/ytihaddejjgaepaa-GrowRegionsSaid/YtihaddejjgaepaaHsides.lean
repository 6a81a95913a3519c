/- grow.sides: the first loop's walk is printed (gprint.py), the second one's is typed. -/
import Derived.Test.YtihaddejjgaepaaGx0
import Derived.Test.YtihaddejjgaepaaHlib
namespace Go.Proofs.Ytihaddejjgaepaa.G
open Go.RowKit Go.Proofs.YtihaddejjgaepaaW.PrintWords Go.Proofs.YtihaddejjgaepaaW.PrintLast Go.Proofs.YtihaddejjgaepaaW.PrintMore
attribute [local go_sem] max2_int min2_int max_two min_two max_three min_three max_four min_four   -- for this text's walks alone
set_option linter.unusedVariables false
set_option linter.unusedSimpArgs false

/-! ### grow_sides: function 23 -/
def grow_sides.l0 : Nat → List (List Int) → List (S44) → Int → Int → Option ((List (List Int)))
  | 0, _, _, _, _ => none
  | k + 1, x3, x11, x12, x13 => if x13 < x12 then (if 0 ≤ x13 then (if x13 < (x11.length : Int) then (if ((rd_T44 x11 x13).f0) = ((rd_T44 x11 x13).f1) then (grow_sides.l0 k x3 x11 x12 (wrap64 (x13 + 1))) else (if 0 ≤ ((rd_T44 x11 x13).f0) then (if ((rd_T44 x11 x13).f0) < (x3.length : Int) then (if (rd_L5 x3 ((rd_T44 x11 x13).f0)).length < 17592186044416 then ((some (x3.set (((rd_T44 x11 x13).f0) : Int).toNat ((rd_L5 x3 ((rd_T44 x11 x13).f0)) ++ [(rd_T44 x11 x13).f1]) : List (List Int))).bind fun y1011 => (if 0 ≤ ((rd_T44 x11 x13).f1) then (if ((rd_T44 x11 x13).f1) < (x3.length : Int) then (if (rd_L5 y1011 ((rd_T44 x11 x13).f1)).length < 17592186044416 then (grow_sides.l0 k (y1011.set (((rd_T44 x11 x13).f1) : Int).toNat ((rd_L5 y1011 ((rd_T44 x11 x13).f1)) ++ [(rd_T44 x11 x13).f0])) x11 x12 (wrap64 (x13 + 1))) else (none)) else (none)) else (none))) else (none)) else (none)) else (none))) else (none)) else (none)) else (some x3)
def grow_sides.rawf (k : Nat) (a0_0 : Int) (l0_1 : List (S44)) : Option ((List (List Int))) := if 0 ≤ a0_0 then (if (a0_0 : Int).toNat ≤ 11728124029610 then (grow_sides.l0 k (List.replicate (a0_0 : Int).toNat []) l0_1 (l0_1.length : Int) 0) else (none)) else (none)
theorem grow_sides.mono_l : ∀ k, (∀ y0 y1 y2 y3, LeO (grow_sides.l0 k y0 y1 y2 y3) (grow_sides.l0 (k + 1) y0 y1 y2 y3))
  | 0 => fun _ _ _ _ r h => by simp [grow_sides.l0] at h
  | k + 1 => by
    have ih0 := grow_sides.mono_l k
    · intro y0 y1 y2 y3
      unfold grow_sides.l0
      repeat' first
      | (with_reducible exact ih0 _ _ _ _)
      | (with_reducible exact LeO.refl _)
      | (with_reducible exact LeO.none _)
      | (with_reducible refine LeO.ite ?_ ?_)
      | (with_reducible refine LeO.bind ?_ (fun _ => ?_))
      | exact ih0 _ _ _ _
      | exact LeO.none _
      | refine LeO.ite ?_ ?_
      | refine LeO.bind ?_ (fun _ => ?_)
theorem grow_sides.rawmono : ∀ a0 a1 k, LeO (grow_sides.rawf k a0 a1) (grow_sides.rawf (k + 1) a0 a1) := by
  intro a0 a1 k
  have ih0 := grow_sides.mono_l k
  unfold grow_sides.rawf
  repeat' first
      | (with_reducible exact ih0 _ _ _ _)
      | (with_reducible exact LeO.refl _)
      | (with_reducible exact LeO.none _)
      | (with_reducible refine LeO.ite ?_ ?_)
      | (with_reducible refine LeO.bind ?_ (fun _ => ?_))
      | exact ih0 _ _ _ _
      | exact LeO.none _
      | refine LeO.ite ?_ ?_
      | refine LeO.bind ?_ (fun _ => ?_)
def grow_sides.T6 : Bool × List (List Nat × List Nat) := (true, [([], []), ([], []), ([1], [1]), ([], []), ([], []), ([4], [4]), ([3, 5], [3, 5]), ([6], [6]), ([], []), ([8], [8]), ([9], [9]), ([7, 10], [7, 10]), ([0, 2, 0, 1, 2, 3, 4, 5, 6, 7, 8, 9, 10, 11], [0, 2]), ([12, 11, 11, 0, 1, 2, 3, 4, 5, 6, 7, 8, 9, 10, 11], [11, 12])])
def grow_sides.B6 : List Nat := [0, 0, 2, 0, 0, 16, 56, 120, 0, 256, 768, 2040, 4095, 8191]
theorem grow_sides.tab6 : rtab .any (opsOf Try.f23 6) = grow_sides.T6 := by kernel_rfl
theorem grow_sides.bits6 : waitsOk grow_sides.T6.2 grow_sides.B6 = true := by kernel_rfl
def grow_sides.T7 : Bool × List (List Nat × List Nat) := (true, [([], []), ([], []), ([1], [1]), ([], []), ([], []), ([4], [4]), ([3, 5], [3, 5]), ([6], [6]), ([], []), ([8], [8]), ([9], [9]), ([7, 10], [7, 10]), ([0, 2, 0, 1, 2, 3, 4, 5, 6, 7, 8, 9, 10, 11], [0, 2]), ([12, 11, 11, 0, 1, 2, 3, 4, 5, 6, 7, 8, 9, 10, 11], [11, 12])])
def grow_sides.B7 : List Nat := [0, 0, 2, 0, 0, 16, 56, 120, 0, 256, 768, 2040, 4095, 8191]
theorem grow_sides.tab7 : rtab .any (opsOf Try.f23 7) = grow_sides.T7 := by kernel_rfl
theorem grow_sides.bits7 : waitsOk grow_sides.T7.2 grow_sides.B7 = true := by kernel_rfl
def sideOf (l : List Int) : List Int := Lib.compact (isort l)
def sidesDone (j : Nat) (xs : List (List Int)) : List (List Int) := (xs.take j).map sideOf ++ xs.drop j
theorem sidesDone_length (j : Nat) (xs : List (List Int)) (h : j ≤ xs.length) : (sidesDone j xs).length = xs.length := by simp [sidesDone]; omega
theorem sidesDone_get (j : Nat) (xs : List (List Int)) (h : j < xs.length) : (sidesDone j xs).getD j [] = xs[j] := by
  simp [sidesDone, List.getD_eq_getElem?_getD, List.getElem?_append, Nat.min_eq_left (Nat.le_of_lt h), h]
theorem sidesDone_set (j : Nat) (xs : List (List Int)) (h : j < xs.length) : (sidesDone j xs).set j (sideOf xs[j]) = sidesDone (j + 1) xs := by
  unfold sidesDone
  rw [List.set_append_right _ _ (by simp; omega), List.length_map, List.length_take, Nat.min_eq_left (Nat.le_of_lt h), Nat.sub_self, List.drop_eq_getElem_cons h, List.set_cons_zero, List.take_succ_eq_append_getElem h, List.map_append, List.append_assoc]
  rfl
theorem sidesDone_zero (xs : List (List Int)) : sidesDone 0 xs = xs := by simp [sidesDone]
theorem sidesDone_all (xs : List (List Int)) : sidesDone xs.length xs = xs.map sideOf := by simp [sidesDone]
set_option maxHeartbeats 8000000 in
set_option maxRecDepth 100000 in
theorem grow_sides.calls (k : Nat) (a0_0 : Int) (A0_1 : Option Addr) (c0_1 : Nat) (l0_1 : List (S44)) (r : List (List Int)) (w : World) (hr0_1 : Kd.C k44 w A0_1 l0_1.length l0_1) (hc0_1 : l0_1.length ≤ c0_1) (hlen : ∀ l ∈ r, l.length < 4611686018427387904) (hpos : 0 < r.length) (h : grow_sides.rawf k a0_0 l0_1 = some r) :
    Calls Try.prog 23 #[.agg #[.int .i64 a0_0, .slice A0_1 l0_1.length c0_1]] w fun e w' => ∃ v0_ : Value, e = .returned (v0_) ∧ Kd.S (Kd.slice 3 (Kd.int .i64)) 28 w' w.heap.size (fun _ => True) v0_ (r.map sideOf) ∧ Below w.heap.size w w' := by
  have hu24 := Try.underlying24
  have hu44 := Try.underlying44
  have HR0_1 := Aside0.mk hr0_1
  have HC0_1 := Aside0.mk hc0_1
  clear hr0_1 hc0_1
  have HB := Aside0.mk (Below.refl w.heap.size w)
  have H : (if 0 ≤ a0_0 then (if (a0_0 : Int).toNat ≤ 11728124029610 then (grow_sides.l0 k (List.replicate (a0_0 : Int).toNat []) l0_1 (l0_1.length : Int) 0) else (none)) else (none)) = some r := h
  clear h
  have HLEN := Aside0.mk hlen
  have HPOS := Aside0.mk hpos
  clear hlen hpos
  by_cases c2 : 0 ≤ a0_0
  · rw [if_pos c2] at H
    have c2b0 := eq_true c2
    have c2b1 : decide (0 ≤ a0_0) = true := decide_eq_true c2
    clear c2
    by_cases c3 : (a0_0 : Int).toNat ≤ 11728124029610
    · rw [if_pos c3] at H
      have c3b0 := eq_true c3
      have c3b1 : decide ((a0_0 : Int).toNat ≤ 11728124029610) = true := decide_eq_true c3
      clear c3
      obtain ⟨y1002, hy1002⟩ : ∃ y_ : List (List Int), y_ = (List.replicate (a0_0 : Int).toNat []) := ⟨_, rfl⟩
      replace H : (grow_sides.l0 k y1002 l0_1 (l0_1.length : Int) 0) = some r := by first | (rw [hy1002]; with_reducible exact H) | (have H2_ := (Option.bind_some _ _).symm.trans H; rw [hy1002]; with_reducible exact H2_) | (have H2_ := (Option.bind_some _ _).symm.trans H; with_reducible exact H2_) | with_reducible exact H | (rw [hy1002]; exact H) | exact H
      have Ny1002 := Aside0.mk hy1002
      clear hy1002
      have H' := Aside0.mk H
      clear H
      go_enter Try.func23, Try.ntmps23
      go_wp2_with (first | ((with_reducible refine gate_dst (N := 1) rfl ?_); refine box_event ?hg (N := 1) ?hd (cs := #[.int .i64 a0_0, .slice A0_1 l0_1.length c0_1]) (t := 24) ?hr ?_; (case hd => rfl); (case hg => rfl); (case hr => first | (go_simp; done) | (go_simp; rfl)); intro gb1001 hg w4 hbox hb; have n0_ := Aside0.mk (below_step (by repeat (first | (with_reducible first | exact HB.out | apply below_alloc | apply pw_below_drewN | apply below_drew1) | exact HB.out)) hb); have n1_ := Aside0.mk (hbox); have n2_ := Aside0.mk ((by rw [hg]; exact (below_size (by repeat (first | (with_reducible first | exact HB.out | apply below_alloc | apply pw_below_drewN | apply below_drew1) | exact HB.out))) : w.heap.size ≤ gb1001)); have n3_ := Aside0.mk ((by rw [hg]; exact (below_size (by repeat (first | (with_reducible first | exact HB.out | apply below_alloc | apply pw_below_drewN | apply below_drew1) | exact HB.out))) : w.heap.size ≤ gb1001)); clear HB; have HB := n0_; have BK1001 := n1_; have GW1001 := n2_; have GE1001 := n3_; clear n0_ n1_ n2_ n3_; clear hb hbox hg; have hcz5_0 : w4.cell? ⟨gb1001, 0, none⟩ = some (.int .i64 a0_0) := (blk_cell BK1001.out 0).trans rfl; have hcz5_1 : w4.cell? ⟨gb1001, 1, none⟩ = some (.slice A0_1 l0_1.length c0_1) := (blk_cell BK1001.out 1).trans rfl; have hfz5_0 := blk_frozen BK1001.out 0; have hfz5_1 := blk_frozen BK1001.out 1) | ((with_reducible refine gate_dst (N := 9) rfl ?_); refine Kd.S_make (Kd.slice 3 (Kd.int .i64)) _ 28 rfl (N := 9) rfl 50 _ _ rfl a0_0 rfl rfl Try.underlying50 (.slice none 0 0) 24 info28 rfl (by decide) (by omega) [] (ok := fun _ => True) (okp := fun _ => True) ⟨_, rfl, Kd.R_nil _ _ _ _ _⟩ (fun _ hk => hk) trivial (of_decide_eq_true (by first | (with_reducible assumption) | assumption)) (Nat.le_trans (Nat.mul_le_mul_right _ (of_decide_eq_true (by first | (with_reducible assumption) | assumption) : a0_0.toNat ≤ 11728124029610)) (by omega)) (Below.refl _ _) (Nat.le_refl _) ?_; intro v1003 w6 ho7 hb hg_ hnew_; clear hg_ hnew_; (first | rw [← Ny1002.out] at ho7 | (simp only [Int.reduceToNat] at ho7; rw [← Ny1002.out] at ho7)); have n0_ := Aside0.mk (Kd.S_lower ho7 (below_size (by repeat (first | (with_reducible first | exact HB.out | apply below_alloc | apply pw_below_drewN | apply below_drew1 | refine below_set ?_ GE1001.out) | exact HB.out)))); have n1_ := Aside0.mk (blk_below (g := gb1001) (o := .cells #[.int .i64 a0_0, .slice A0_1 l0_1.length c0_1] 24 (0, 0)) (by (with_reducible repeat (first | refine blk_drewN ?_ _ | refine blk_drew ?_ | refine blk_alloc ?_ _)); exact BK1001.out) hb); have n2_ := Aside0.mk (below_step (by repeat (first | (with_reducible first | exact HB.out | apply below_alloc | apply pw_below_drewN | apply below_drew1 | refine below_set ?_ GE1001.out) | exact HB.out)) hb); clear BK1001; clear HB; have HO1004 := n0_; have BK1001 := n1_; have HB := n2_; clear n0_ n1_ n2_; clear hb ho7; have hcz8_0 : w6.cell? ⟨gb1001, 0, none⟩ = some (.int .i64 a0_0) := (blk_cell BK1001.out 0).trans rfl; have hcz8_1 : w6.cell? ⟨gb1001, 1, none⟩ = some (.slice A0_1 l0_1.length c0_1) := (blk_cell BK1001.out 1).trans rfl; have hfz8_0 := blk_frozen BK1001.out 0; have hfz8_1 := blk_frozen BK1001.out 1))
      go_loopg [13] k (fun kq v13 w' => ∃ (x3_1 : List (List Int)) (x13_1 : Int), v13 = .int .i64 x13_1 ∧ Aside0 (grow_sides.l0 kq x3_1 l0_1 (l0_1.length : Int) x13_1 = some r) ∧ Aside0 (kq ≤ k) ∧ Aside0 (Kd.S (Kd.slice 3 (Kd.int .i64)) 28 w' w.heap.size (fun _ => True) v1003 x3_1) ∧ Aside0 (w'.heap[gb1001]? = some (.cells #[.int .i64 a0_0, (.slice A0_1 l0_1.length c0_1)] 24 (0, 0))) ∧ Aside0 (Below w.heap.size w w'))
      case atStart => exact ⟨(y1002), (0), (by first | rfl | (simp; done) | (simp [*]; done)), H', ⟨Nat.le_refl _⟩, ⟨by (with_reducible repeat (first | apply Kd.S_alloc | apply Kd.S_drewN | apply Kd.S_drew)); exact HO1004.out⟩, ⟨by (with_reducible repeat (first | refine blk_drewN ?_ _ | refine blk_drew ?_ | refine blk_alloc ?_ _)); exact BK1001.out⟩, ⟨by repeat (first | (with_reducible first | exact HB.out | apply below_alloc | apply pw_below_drewN | apply below_drew1 | refine below_set ?_ GE1001.out) | exact HB.out)⟩⟩
      case round =>
        clear H'
        try clear c2
        try clear c2b0
        try clear c2b1
        try clear p2
        try clear c3
        try clear c3b0
        try clear c3b1
        try clear hcz5_0
        try clear hcz5_1
        try clear hcz8_0
        try clear hcz8_1
        try clear hfz5_0
        try clear hfz5_1
        try clear hfz8_0
        try clear hfz8_1
        obtain ⟨x3_1, x13_1, rfl, HA, HK1, HO_3, BK1001, HB⟩ := hrel
        cases gk with
        | zero => exact absurd HA.out (by simp [grow_sides.l0])
        | succ k1 =>
          have H := HA.out
          clear HA
          simp only [grow_sides.l0] at H
          by_cases c9 : x13_1 < (l0_1.length : Int)
          · rw [if_pos c9] at H
            have c9b0 : decide (x13_1 < (l0_1.length : Int)) = true := decide_eq_true c9
            clear c9
            by_cases c10 : 0 ≤ x13_1
            · rw [if_pos c10] at H
              have c10b0 : decide (0 ≤ x13_1) = true := decide_eq_true c10
              clear c10
              by_cases c11 : x13_1 < (l0_1.length : Int)
              · rw [if_pos c11] at H
                have c11b0 : decide (x13_1 < (l0_1.length : Int)) = true := decide_eq_true c11
                clear c11
                by_cases c12 : ((rd_T44 l0_1 x13_1).f0) = ((rd_T44 l0_1 x13_1).f1)
                · rw [if_pos c12] at H
                  have c12b0 : (((rd_T44 l0_1 x13_1).f0) == ((rd_T44 l0_1 x13_1).f1)) = true := beq_iff_eq.mpr c12
                  have c12b1 : (((rd_T44 l0_1 x13_1).f0) != ((rd_T44 l0_1 x13_1).f1)) = false := bne_eq_false_iff_eq.mpr c12
                  clear c12
                  have H' := Aside0.mk H
                  clear H
                  have p1005 : 0 ≤ (x13_1 : Int) := of_decide_eq_true (by first | (with_reducible assumption) | assumption)
                  have q1005 : x13_1 < (l0_1.length : Int) := of_decide_eq_true (by first | (with_reducible assumption) | assumption)
                  obtain ⟨ad1005, e1005, hx1005_0, hx1005_1, hx1005_2⟩ := at_T44 HR0_1.out x13_1 p1005 q1005
                  cases e1005
                  replace hx1005_0 := (HB.out.cell (World.block_lt_of_cell? w _ hx1005_0)).trans hx1005_0
                  replace hx1005_1 := (HB.out.cell (World.block_lt_of_cell? w _ hx1005_1)).trans hx1005_1
                  replace hx1005_2 := (HB.out.cell (World.block_lt_of_cell? w _ hx1005_2)).trans hx1005_2
                  replace p1005 := eq_true p1005
                  replace q1005 := eq_true q1005
                  go_wp2_with (first | ((with_reducible refine gate_dst (N := 5) rfl ?_); refine box_event ?hg (N := 5) ?hd (cs := #[.int .i64 0, .int .i64 0, .int .u32 0]) (t := 44) ?hr ?_; (case hd => rfl); (case hg => rfl); (case hr => first | (go_simp; done) | (go_simp; rfl)); intro gb1006 hg w13 hbox hb; have n0_ := Aside0.mk (Kd.S_below (by (with_reducible repeat (first | apply Kd.S_alloc | apply Kd.S_drewN | apply Kd.S_drew)); exact HO_3.out) hb); have n1_ := Aside0.mk (blk_below (g := gb1001) (o := .cells #[.int .i64 a0_0, .slice (some ad1005) l0_1.length c0_1] 24 (0, 0)) (by (with_reducible repeat (first | refine blk_drewN ?_ _ | refine blk_drew ?_ | refine blk_alloc ?_ _)); exact BK1001.out) hb); have n2_ := Aside0.mk (below_step (by repeat (first | (with_reducible first | exact HB.out | apply below_alloc | apply pw_below_drewN | apply below_drew1 | refine below_set ?_ GE1001.out) | exact HB.out)) hb); have n3_ := Aside0.mk (hbox); have n4_ := Aside0.mk ((by rw [hg]; exact (below_size (by repeat (first | (with_reducible first | exact HB.out | apply below_alloc | apply pw_below_drewN | apply below_drew1 | refine below_set ?_ GE1001.out) | exact HB.out))) : w.heap.size ≤ gb1006)); have n5_ := Aside0.mk ((by rw [hg]; exact (below_size (by repeat (first | (with_reducible first | exact HB.out | apply below_alloc | apply pw_below_drewN | apply below_drew1 | refine below_set ?_ GE1001.out) | exact HB.out))) : w.heap.size ≤ gb1006)); have n6_ := Aside0.mk ((by rw [hg]; exact Nat.ne_of_lt (blk_lt (g := gb1001) (o := .cells #[.int .i64 a0_0, .slice (some ad1005) l0_1.length c0_1] 24 (0, 0)) (by (with_reducible repeat (first | refine blk_drewN ?_ _ | refine blk_drew ?_ | refine blk_alloc ?_ _)); exact BK1001.out)) : gb1001 ≠ gb1006)); have n7_ := Aside0.mk ((by rw [hg]; exact Nat.ne_of_gt (blk_lt (g := gb1001) (o := .cells #[.int .i64 a0_0, .slice (some ad1005) l0_1.length c0_1] 24 (0, 0)) (by (with_reducible repeat (first | refine blk_drewN ?_ _ | refine blk_drew ?_ | refine blk_alloc ?_ _)); exact BK1001.out)) : gb1006 ≠ gb1001)); clear HO_3; clear BK1001; clear HB; have HO_3 := n0_; have BK1001 := n1_; have HB := n2_; have BK1006 := n3_; have GW1006 := n4_; have GE1006 := n5_; have NB1001_1006 := n6_; have NB1006_1001 := n7_; clear n0_ n1_ n2_ n3_ n4_ n5_ n6_ n7_; clear hb hbox hg; have hnb14 := NB1006_1001.out; have hnc14 := NB1001_1006.out; have hcz15_0 : w13.cell? ⟨gb1006, 0, none⟩ = some (.int .i64 0) := (blk_cell BK1006.out 0).trans rfl; have hcz15_1 : w13.cell? ⟨gb1006, 1, none⟩ = some (.int .i64 0) := (blk_cell BK1006.out 1).trans rfl; have hcz15_2 : w13.cell? ⟨gb1006, 2, none⟩ = some (.int .u32 0) := (blk_cell BK1006.out 2).trans rfl; have hfz15_0 := blk_frozen BK1006.out 0; have hfz15_1 := blk_frozen BK1006.out 1; have hfz15_2 := blk_frozen BK1006.out 2))
                  go_roundg k1
                  case measure => have := HK1.out; omega
                  case rel => exact ⟨(x3_1), (wrap64 (x13_1 + 1)), (by first | rfl | (simp; done) | (simp [*]; done)), H', ⟨by have := HK1.out; omega⟩, ⟨by (with_reducible repeat (first | apply Kd.S_alloc | apply Kd.S_drewN | apply Kd.S_drew)); exact Kd.S_mono (Kd.S_far (p := ⟨gb1006, 2, none⟩) (Kd.S_far (p := ⟨gb1006, 1, none⟩) (Kd.S_far (p := ⟨gb1006, 0, none⟩) (Kd.S_types HO_3.out BK1006.out (by decide)) (fun _ hk => hk.2) (.int .i64 ((rd_T44 l0_1 x13_1).f0))) (fun _ hk => hk.2) (.int .i64 ((rd_T44 l0_1 x13_1).f1))) (fun _ hk => hk.2) (.int .u32 ((rd_T44 l0_1 x13_1).f2))) (fun _ hk => trivial)⟩, ⟨by (with_reducible repeat (first | refine blk_drewN ?_ _ | refine blk_drew ?_ | refine blk_alloc ?_ _)); refine blk_far ?_ NB1001_1006.out _; (with_reducible repeat (first | refine blk_drewN ?_ _ | refine blk_drew ?_ | refine blk_alloc ?_ _)); refine blk_far ?_ NB1001_1006.out _; (with_reducible repeat (first | refine blk_drewN ?_ _ | refine blk_drew ?_ | refine blk_alloc ?_ _)); refine blk_far ?_ NB1001_1006.out _; (with_reducible repeat (first | refine blk_drewN ?_ _ | refine blk_drew ?_ | refine blk_alloc ?_ _)); exact BK1001.out⟩, ⟨by repeat (first | (with_reducible first | exact HB.out | apply below_alloc | apply pw_below_drewN | apply below_drew1 | refine below_set ?_ GE1001.out | refine below_set ?_ GE1006.out) | exact HB.out)⟩⟩
                · rw [if_neg c12] at H
                  have c12b0 : (((rd_T44 l0_1 x13_1).f0) == ((rd_T44 l0_1 x13_1).f1)) = false := beq_eq_false_iff_ne.mpr c12
                  have c12b1 : (((rd_T44 l0_1 x13_1).f0) != ((rd_T44 l0_1 x13_1).f1)) = true := bne_iff_ne.mpr c12
                  by_cases c16 : 0 ≤ ((rd_T44 l0_1 x13_1).f0)
                  · rw [if_pos c16] at H
                    have c16b0 : decide (0 ≤ ((rd_T44 l0_1 x13_1).f0)) = true := decide_eq_true c16
                    clear c16
                    by_cases c17 : ((rd_T44 l0_1 x13_1).f0) < (x3_1.length : Int)
                    · rw [if_pos c17] at H
                      have c17b0 : decide (((rd_T44 l0_1 x13_1).f0) < (x3_1.length : Int)) = true := decide_eq_true c17
                      clear c17
                      by_cases c18 : (rd_L5 x3_1 ((rd_T44 l0_1 x13_1).f0)).length < 17592186044416
                      · rw [if_pos c18] at H
                        have LMc18 := Aside0.mk c18
                        clear c18
                        obtain ⟨y1008, hy1008⟩ : ∃ y_ : List Int, y_ = ((rd_L5 x3_1 ((rd_T44 l0_1 x13_1).f0)) ++ [(rd_T44 l0_1 x13_1).f1]) := ⟨_, rfl⟩
                        replace H : ((some (x3_1.set (((rd_T44 l0_1 x13_1).f0) : Int).toNat y1008 : List (List Int))).bind fun y1011 => (if 0 ≤ ((rd_T44 l0_1 x13_1).f1) then (if ((rd_T44 l0_1 x13_1).f1) < (x3_1.length : Int) then (if (rd_L5 y1011 ((rd_T44 l0_1 x13_1).f1)).length < 17592186044416 then (grow_sides.l0 k1 (y1011.set (((rd_T44 l0_1 x13_1).f1) : Int).toNat ((rd_L5 y1011 ((rd_T44 l0_1 x13_1).f1)) ++ [(rd_T44 l0_1 x13_1).f0])) l0_1 (l0_1.length : Int) (wrap64 (x13_1 + 1))) else (none)) else (none)) else (none))) = some r := by first | (rw [hy1008]; with_reducible exact H) | (have H2_ := (Option.bind_some _ _).symm.trans H; rw [hy1008]; with_reducible exact H2_) | (have H2_ := (Option.bind_some _ _).symm.trans H; with_reducible exact H2_) | with_reducible exact H | (rw [hy1008]; exact H) | exact H
                        have Ny1008 := Aside0.mk hy1008
                        clear hy1008
                        obtain ⟨y1011, hy1011⟩ : ∃ y_ : List (List Int), y_ = (x3_1.set (((rd_T44 l0_1 x13_1).f0) : Int).toNat y1008) := ⟨_, rfl⟩
                        replace H : (if 0 ≤ ((rd_T44 l0_1 x13_1).f1) then (if ((rd_T44 l0_1 x13_1).f1) < (x3_1.length : Int) then (if (rd_L5 y1011 ((rd_T44 l0_1 x13_1).f1)).length < 17592186044416 then (grow_sides.l0 k1 (y1011.set (((rd_T44 l0_1 x13_1).f1) : Int).toNat ((rd_L5 y1011 ((rd_T44 l0_1 x13_1).f1)) ++ [(rd_T44 l0_1 x13_1).f0])) l0_1 (l0_1.length : Int) (wrap64 (x13_1 + 1))) else (none)) else (none)) else (none)) = some r := by first | (rw [hy1011]; with_reducible exact H) | (have H2_ := (Option.bind_some _ _).symm.trans H; rw [hy1011]; with_reducible exact H2_) | (have H2_ := (Option.bind_some _ _).symm.trans H; with_reducible exact H2_) | with_reducible exact H | (rw [hy1011]; exact H) | exact H
                        have Ny1011 := Aside0.mk hy1011
                        clear hy1011
                        by_cases c20 : 0 ≤ ((rd_T44 l0_1 x13_1).f1)
                        · rw [if_pos c20] at H
                          have c20b0 : decide (0 ≤ ((rd_T44 l0_1 x13_1).f1)) = true := decide_eq_true c20
                          clear c20
                          by_cases c21 : ((rd_T44 l0_1 x13_1).f1) < (x3_1.length : Int)
                          · rw [if_pos c21] at H
                            have c21b0 : decide (((rd_T44 l0_1 x13_1).f1) < (x3_1.length : Int)) = true := decide_eq_true c21
                            clear c21
                            by_cases c22 : (rd_L5 y1011 ((rd_T44 l0_1 x13_1).f1)).length < 17592186044416
                            · rw [if_pos c22] at H
                              have LMc22 := Aside0.mk c22
                              clear c22
                              obtain ⟨y1013, hy1013⟩ : ∃ y_ : List Int, y_ = ((rd_L5 y1011 ((rd_T44 l0_1 x13_1).f1)) ++ [(rd_T44 l0_1 x13_1).f0]) := ⟨_, rfl⟩
                              replace H : (grow_sides.l0 k1 (y1011.set (((rd_T44 l0_1 x13_1).f1) : Int).toNat y1013) l0_1 (l0_1.length : Int) (wrap64 (x13_1 + 1))) = some r := by first | (rw [hy1013]; with_reducible exact H) | (have H2_ := (Option.bind_some _ _).symm.trans H; rw [hy1013]; with_reducible exact H2_) | (have H2_ := (Option.bind_some _ _).symm.trans H; with_reducible exact H2_) | with_reducible exact H | (rw [hy1013]; exact H) | exact H
                              have Ny1013 := Aside0.mk hy1013
                              clear hy1013
                              obtain ⟨y1016, hy1016⟩ : ∃ y_ : List (List Int), y_ = (y1011.set (((rd_T44 l0_1 x13_1).f1) : Int).toNat y1013) := ⟨_, rfl⟩
                              replace H : (grow_sides.l0 k1 y1016 l0_1 (l0_1.length : Int) (wrap64 (x13_1 + 1))) = some r := by first | (rw [hy1016]; with_reducible exact H) | (have H2_ := (Option.bind_some _ _).symm.trans H; rw [hy1016]; with_reducible exact H2_) | (have H2_ := (Option.bind_some _ _).symm.trans H; with_reducible exact H2_) | with_reducible exact H | (rw [hy1016]; exact H) | exact H
                              have Ny1016 := Aside0.mk hy1016
                              clear hy1016
                              have H' := Aside0.mk H
                              clear H
                              have p1005 : 0 ≤ (x13_1 : Int) := of_decide_eq_true (by first | (with_reducible assumption) | assumption)
                              have q1005 : x13_1 < (l0_1.length : Int) := of_decide_eq_true (by first | (with_reducible assumption) | assumption)
                              obtain ⟨ad1005, e1005, hx1005_0, hx1005_1, hx1005_2⟩ := at_T44 HR0_1.out x13_1 p1005 q1005
                              cases e1005
                              replace hx1005_0 := (HB.out.cell (World.block_lt_of_cell? w _ hx1005_0)).trans hx1005_0
                              replace hx1005_1 := (HB.out.cell (World.block_lt_of_cell? w _ hx1005_1)).trans hx1005_1
                              replace hx1005_2 := (HB.out.cell (World.block_lt_of_cell? w _ hx1005_2)).trans hx1005_2
                              replace p1005 := eq_true p1005
                              replace q1005 := eq_true q1005
                              try go_wp2_with (first | ((with_reducible refine gate_dst (N := 5) rfl ?_); refine box_event ?hg (N := 5) ?hd (cs := #[.int .i64 0, .int .i64 0, .int .u32 0]) (t := 44) ?hr ?_; (case hd => rfl); (case hg => rfl); (case hr => first | (go_simp; done) | (go_simp; rfl)); intro gb1006 hg w24 hbox hb; have n0_ := Aside0.mk (Kd.S_below (by (with_reducible repeat (first | apply Kd.S_alloc | apply Kd.S_drewN | apply Kd.S_drew)); exact HO_3.out) hb); have n1_ := Aside0.mk (blk_below (g := gb1001) (o := .cells #[.int .i64 a0_0, .slice (some ad1005) l0_1.length c0_1] 24 (0, 0)) (by (with_reducible repeat (first | refine blk_drewN ?_ _ | refine blk_drew ?_ | refine blk_alloc ?_ _)); exact BK1001.out) hb); have n2_ := Aside0.mk (below_step (by repeat (first | (with_reducible first | exact HB.out | apply below_alloc | apply pw_below_drewN | apply below_drew1 | refine below_set ?_ GE1001.out) | exact HB.out)) hb); have n3_ := Aside0.mk (hbox); have n4_ := Aside0.mk ((by rw [hg]; exact (below_size (by repeat (first | (with_reducible first | exact HB.out | apply below_alloc | apply pw_below_drewN | apply below_drew1 | refine below_set ?_ GE1001.out) | exact HB.out))) : w.heap.size ≤ gb1006)); have n5_ := Aside0.mk ((by rw [hg]; exact (below_size (by repeat (first | (with_reducible first | exact HB.out | apply below_alloc | apply pw_below_drewN | apply below_drew1 | refine below_set ?_ GE1001.out) | exact HB.out))) : w.heap.size ≤ gb1006)); have n6_ := Aside0.mk ((by rw [hg]; exact Nat.ne_of_lt (blk_lt (g := gb1001) (o := .cells #[.int .i64 a0_0, .slice (some ad1005) l0_1.length c0_1] 24 (0, 0)) (by (with_reducible repeat (first | refine blk_drewN ?_ _ | refine blk_drew ?_ | refine blk_alloc ?_ _)); exact BK1001.out)) : gb1001 ≠ gb1006)); have n7_ := Aside0.mk ((by rw [hg]; exact Nat.ne_of_gt (blk_lt (g := gb1001) (o := .cells #[.int .i64 a0_0, .slice (some ad1005) l0_1.length c0_1] 24 (0, 0)) (by (with_reducible repeat (first | refine blk_drewN ?_ _ | refine blk_drew ?_ | refine blk_alloc ?_ _)); exact BK1001.out)) : gb1006 ≠ gb1001)); clear HO_3; clear BK1001; clear HB; have HO_3 := n0_; have BK1001 := n1_; have HB := n2_; have BK1006 := n3_; have GW1006 := n4_; have GE1006 := n5_; have NB1001_1006 := n6_; have NB1006_1001 := n7_; clear n0_ n1_ n2_ n3_ n4_ n5_ n6_ n7_; clear hb hbox hg; have hnb25 := NB1006_1001.out; have hnc25 := NB1001_1006.out; have hcz26_0 : w24.cell? ⟨gb1006, 0, none⟩ = some (.int .i64 0) := (blk_cell BK1006.out 0).trans rfl; have hcz26_1 : w24.cell? ⟨gb1006, 1, none⟩ = some (.int .i64 0) := (blk_cell BK1006.out 1).trans rfl; have hcz26_2 : w24.cell? ⟨gb1006, 2, none⟩ = some (.int .u32 0) := (blk_cell BK1006.out 2).trans rfl; have hfz26_0 := blk_frozen BK1006.out 0; have hfz26_1 := blk_frozen BK1006.out 1; have hfz26_2 := blk_frozen BK1006.out 2))
                              have n0_ : Aside0 (Kd.S (Kd.slice 3 (Kd.int .i64)) 28 (((w24.setCell ⟨gb1006, 0, none⟩ (.int .i64 ((rd_T44 l0_1 x13_1).f0))).setCell ⟨gb1006, 1, none⟩ (.int .i64 ((rd_T44 l0_1 x13_1).f1))).setCell ⟨gb1006, 2, none⟩ (.int .u32 ((rd_T44 l0_1 x13_1).f2))) w.heap.size (fun _ => True) v1003 x3_1) := ⟨by (with_reducible repeat (first | apply Kd.S_alloc | apply Kd.S_drewN | apply Kd.S_drew)); exact Kd.S_mono (Kd.S_far (p := ⟨gb1006, 2, none⟩) (Kd.S_far (p := ⟨gb1006, 1, none⟩) (Kd.S_far (p := ⟨gb1006, 0, none⟩) (Kd.S_types HO_3.out BK1006.out (by decide)) (fun _ hk => hk.2) (.int .i64 ((rd_T44 l0_1 x13_1).f0))) (fun _ hk => hk.2) (.int .i64 ((rd_T44 l0_1 x13_1).f1))) (fun _ hk => hk.2) (.int .u32 ((rd_T44 l0_1 x13_1).f2))) (fun _ hk => trivial)⟩
                              have n1_ : Aside0 ((((w24.setCell ⟨gb1006, 0, none⟩ (.int .i64 ((rd_T44 l0_1 x13_1).f0))).setCell ⟨gb1006, 1, none⟩ (.int .i64 ((rd_T44 l0_1 x13_1).f1))).setCell ⟨gb1006, 2, none⟩ (.int .u32 ((rd_T44 l0_1 x13_1).f2))).heap[gb1001]? = some (.cells #[.int .i64 a0_0, .slice (some ad1005) l0_1.length c0_1] 24 (0, 0))) := ⟨by (with_reducible repeat (first | refine blk_drewN ?_ _ | refine blk_drew ?_ | refine blk_alloc ?_ _)); refine blk_far ?_ NB1001_1006.out _; (with_reducible repeat (first | refine blk_drewN ?_ _ | refine blk_drew ?_ | refine blk_alloc ?_ _)); refine blk_far ?_ NB1001_1006.out _; (with_reducible repeat (first | refine blk_drewN ?_ _ | refine blk_drew ?_ | refine blk_alloc ?_ _)); refine blk_far ?_ NB1001_1006.out _; (with_reducible repeat (first | refine blk_drewN ?_ _ | refine blk_drew ?_ | refine blk_alloc ?_ _)); exact BK1001.out⟩
                              have n2_ : Aside0 ((((w24.setCell ⟨gb1006, 0, none⟩ (.int .i64 ((rd_T44 l0_1 x13_1).f0))).setCell ⟨gb1006, 1, none⟩ (.int .i64 ((rd_T44 l0_1 x13_1).f1))).setCell ⟨gb1006, 2, none⟩ (.int .u32 ((rd_T44 l0_1 x13_1).f2))).heap[gb1006]? = some (.cells #[.int .i64 ((rd_T44 l0_1 x13_1).f0), .int .i64 ((rd_T44 l0_1 x13_1).f1), .int .u32 ((rd_T44 l0_1 x13_1).f2)] 44 (0, 0))) := ⟨by (with_reducible repeat (first | refine blk_drewN ?_ _ | refine blk_drew ?_ | refine blk_alloc ?_ _)); refine blk_put (cs := #[.int .i64 ((rd_T44 l0_1 x13_1).f0), .int .i64 ((rd_T44 l0_1 x13_1).f1), .int .u32 0]) ?_ 2 _ rfl; (with_reducible repeat (first | refine blk_drewN ?_ _ | refine blk_drew ?_ | refine blk_alloc ?_ _)); refine blk_put (cs := #[.int .i64 ((rd_T44 l0_1 x13_1).f0), .int .i64 0, .int .u32 0]) ?_ 1 _ rfl; (with_reducible repeat (first | refine blk_drewN ?_ _ | refine blk_drew ?_ | refine blk_alloc ?_ _)); refine blk_put (cs := #[.int .i64 0, .int .i64 0, .int .u32 0]) ?_ 0 _ rfl; (with_reducible repeat (first | refine blk_drewN ?_ _ | refine blk_drew ?_ | refine blk_alloc ?_ _)); exact BK1006.out⟩
                              have n3_ : Aside0 (Below w.heap.size w (((w24.setCell ⟨gb1006, 0, none⟩ (.int .i64 ((rd_T44 l0_1 x13_1).f0))).setCell ⟨gb1006, 1, none⟩ (.int .i64 ((rd_T44 l0_1 x13_1).f1))).setCell ⟨gb1006, 2, none⟩ (.int .u32 ((rd_T44 l0_1 x13_1).f2)))) := ⟨by repeat (first | (with_reducible first | exact HB.out | apply below_alloc | apply pw_below_drewN | apply below_drew1 | refine below_set ?_ GE1001.out | refine below_set ?_ GE1006.out) | exact HB.out)⟩
                              (try clear HO_3)
                              (try clear BK1001)
                              (try clear BK1006)
                              (try clear HB)
                              generalize (((w24.setCell ⟨gb1006, 0, none⟩ (.int .i64 ((rd_T44 l0_1 x13_1).f0))).setCell ⟨gb1006, 1, none⟩ (.int .i64 ((rd_T44 l0_1 x13_1).f1))).setCell ⟨gb1006, 2, none⟩ (.int .u32 ((rd_T44 l0_1 x13_1).f2))) = w27 at n0_ n1_ n2_ n3_ ⊢
                              have HO_3 := n0_
                              have BK1001 := n1_
                              have BK1006 := n2_
                              have HB := n3_
                              clear n0_ n1_ n2_ n3_
                              have n0_ := Aside0.mk (Kd.S_drew HO_3.out)
                              have n1_ := Aside0.mk (blk_drew BK1001.out)
                              have n2_ := Aside0.mk (blk_drew BK1006.out)
                              have n3_ := Aside0.mk (below_drew1 HB.out)
                              clear HO_3
                              clear BK1001
                              clear BK1006
                              clear HB
                              have HO_3 := n0_
                              have BK1001 := n1_
                              have BK1006 := n2_
                              have HB := n3_
                              clear n0_ n1_ n2_ n3_
                              obtain ⟨Ao29, co29, eo29⟩ := Kd.S_slice HO_3.out
                              (first | subst eo29 | (injection eo29 with f1_ f2_ f3_; have f4_ := f1_.symm; have f5_ := f3_.symm; clear f1_ f2_ f3_; subst f4_; subst f5_))
                              have p1007 : 0 ≤ (((rd_T44 l0_1 x13_1).f0) : Int) := of_decide_eq_true (by first | (with_reducible assumption) | assumption)
                              have q1007 : ((rd_T44 l0_1 x13_1).f0) < (x3_1.length : Int) := of_decide_eq_true (by first | (with_reducible assumption) | assumption)
                              obtain ⟨ad1007, A1007_0, c1007_0, e1007, hx1007_0, hl1007_0, hi1007_0⟩ := at_L5 (Kd.S_reads' HO_3.out).2.2 ((rd_T44 l0_1 x13_1).f0) p1007 q1007
                              cases e1007
                              obtain ⟨ce1007, hce1007, hMe1007, hcc1007⟩ := Kd.S_get HO_3.out [] ((rd_T44 l0_1 x13_1).f0) p1007 (by first | exact q1007 | exact of_decide_eq_true (by first | (with_reducible assumption) | assumption) | (have e_ := (Kd.S_reads' HO_3.out).1; omega))
                              obtain ⟨ve1007_0, rfl, ge1007_0⟩ := hMe1007
                              have hv1007_0 := hcc1007 0 _ rfl
                              rw [Nat.add_zero, show ((Kd.slice 3 (Kd.int .i64))).sz = 1 from rfl, Nat.mul_one] at hv1007_0
                              replace hv1007_0 := Option.some.inj (hv1007_0.symm.trans hx1007_0)
                              rw [hv1007_0] at ge1007_0
                              have HL1007_0 := Aside0.mk (show Kd.R (Kd.int .i64) 3 _ _ _ _ (rd_L5 x3_1 ((rd_T44 l0_1 x13_1).f0)) from ge1007_0)
                              clear hv1007_0 ge1007_0
                              have HX1007_0 := Aside0.mk hx1007_0
                              clear hcc1007 hce1007
                              have HR1007_0 := Aside0.mk hi1007_0
                              have HC1007_0 := Aside0.mk hl1007_0
                              clear hi1007_0 hl1007_0
                              replace p1007 := eq_true p1007
                              replace q1007 := eq_true q1007
                              obtain ⟨go30, co30, eo30, gb30, gl30, cl30, HG30⟩ := Kd.S_form HO_3.out (by have h_ : (((rd_T44 l0_1 x13_1).f0) : Int) < ((x3_1.length : Int) : Int) := of_decide_eq_true (by first | (with_reducible assumption) | assumption); have h2_ : 0 ≤ (((rd_T44 l0_1 x13_1).f0) : Int) := (of_decide_eq_true (by first | (with_reducible assumption) | assumption)); omega)
                              (first | cases eo30 | (injection eo30 with ea_ en_ ec_; (first | subst ea_ | (injection ea_ with ea_; subst ea_)); subst ec_; clear en_))
                              have GB30 := Aside0.mk gb30
                              have GG30 := Aside0.mk HG30
                              clear gb30 gl30 HG30
                              (first | simp only [add_plain] at hx1007_0 | skip)
                              obtain ⟨oki30, ce30, hcl30, hM30, hcc30, _, _, hH30⟩ := Kd.S_elem HO_3.out [] (((rd_T44 l0_1 x13_1).f0) : Int) (of_decide_eq_true (by first | (with_reducible assumption) | assumption)) (by have h_ : (((rd_T44 l0_1 x13_1).f0) : Int) < ((x3_1.length : Int) : Int) := of_decide_eq_true (by first | (with_reducible assumption) | assumption); first | exact h_ | (have e_ := (Kd.S_reads' HO_3.out).1; omega) | simpa using h_)
                              obtain ⟨ve30_0, rfl, ge30_0⟩ := hM30
                              have hv30 := hcc30 0 _ rfl
                              have hX30 := HX1007_0.out
                              (try simp only [add_plain] at hX30)
                              (try simp only [Nat.add_zero] at hv30)
                              (try rw [show ((Kd.slice 3 (Kd.int .i64))).sz = 1 from rfl, Nat.mul_one] at hv30)
                              replace hv30 := Option.some.inj (hv30.symm.trans hX30)
                              subst hv30
                              clear hX30 hcc30 hcl30
                              have UU30 := Aside0.mk (show Kd.R (Kd.int .i64) 3 _ w.heap.size oki30 (.slice A1007_0 (rd_L5 x3_1 ((rd_T44 l0_1 x13_1).f0)).length c1007_0) (rd_L5 x3_1 ((rd_T44 l0_1 x13_1).f0)) from ge30_0)
                              have HH30 := Aside0.mk hH30
                              have HN30 := Aside0.mk (Kd.S_reads' HO_3.out).1
                              clear hH30 ge30_0
                              refine start_ (n := 14) (S := fun w' => w'.cell? ⟨gb1006, 0, none⟩ = some (.int .i64 ((rd_T44 l0_1 x13_1).f0)) ∧ w'.cell? ⟨gb1006, 1, none⟩ = some (.int .i64 ((rd_T44 l0_1 x13_1).f1)) ∧ w'.cell? ⟨gb1006, 2, none⟩ = some (.int .u32 ((rd_T44 l0_1 x13_1).f2)) ∧ w'.cell? ⟨go30, (((rd_T44 l0_1 x13_1).f0)).toNat, none⟩ = some (.slice A1007_0 (rd_L5 x3_1 ((rd_T44 l0_1 x13_1).f0)).length c1007_0)) (ds := [13]) #[false, false, false, false, false, false, false, false, false, false, false, false, false, false] (by kernel_rfl) rfl rfl ⟨(blk_cell BK1006.out 0).trans rfl, (blk_cell BK1006.out 1).trans rfl, (blk_cell BK1006.out 2).trans rfl, hx1007_0⟩ (fun hHeld => ?_); refine with_tabW grow_sides.tab6 grow_sides.bits6 (fun HT_ HW_ => ?_)
                              generalize w27.drew = w28 at HO_3 BK1001 BK1006 HB GG30 HH30 HL1007_0 HR1007_0 HX1007_0 UU30 hx1007_0 hHeld ⊢
                              refine pure_ (i := 0) (N := some 22) (v := ?_) (a' := ?_) #[true, false, false, false, false, false, false, false, false, false, false, false, false, false] rfl rfl (any_of HT_.out (by kernel_rfl)) (fun _ _ _ h => h) (Or.inl ⟨by rfl, ?_⟩) ?_ ?_
                              rotate_left
                              · intro w'
                                go_simp
                                with_reducible rfl
                              rotate_left
                              · simp only [Act.put, List.setIfInBounds_toArray, List.set_cons_zero, List.set_cons_succ, i64_w, i32_w]
                                rfl
                              refine pure_ (i := 1) (N := some 23) (v := ?_) (a' := ?_) #[true, true, false, false, false, false, false, false, false, false, false, false, false, false] rfl rfl (any_of HT_.out (by kernel_rfl)) (fun _ _ _ h => h) (Or.inl ⟨by rfl, ?_⟩) ?_ ?_
                              rotate_left
                              · intro w'
                                go_simp
                                with_reducible rfl
                              rotate_left
                              · simp only [Act.put, List.setIfInBounds_toArray, List.set_cons_zero, List.set_cons_succ, i64_w, i32_w]
                                rfl
                              refine pure_ (i := 3) (N := some 25) (v := ?_) (a' := ?_) #[true, true, false, true, false, false, false, false, false, false, false, false, false, false] rfl rfl (any_of HT_.out (by kernel_rfl)) (fun _ _ _ h => h) (Or.inl ⟨by rfl, ?_⟩) ?_ ?_
                              rotate_left
                              · intro w'
                                go_simp
                                with_reducible rfl
                              rotate_left
                              · simp only [Act.put, List.setIfInBounds_toArray, List.set_cons_zero, List.set_cons_succ, i64_w, i32_w]
                                rfl
                              refine pure_ (i := 4) (N := some 26) (v := ?_) (a' := ?_) #[true, true, false, true, true, false, false, false, false, false, false, false, false, false] rfl rfl (any_of HT_.out (by kernel_rfl)) (fun _ _ _ h => h) (Or.inl ⟨by rfl, ?_⟩) ?_ ?_
                              rotate_left
                              · intro w'
                                go_simp
                                with_reducible rfl
                              rotate_left
                              · simp only [Act.put, List.setIfInBounds_toArray, List.set_cons_zero, List.set_cons_succ, i64_w, i32_w]
                                rfl
                              refine pure_ (i := 8) (N := some 30) (v := ?_) (a' := ?_) #[true, true, false, true, true, false, false, false, true, false, false, false, false, false] rfl rfl (any_of HT_.out (by kernel_rfl)) (fun _ _ _ h => h) (Or.inl ⟨by rfl, ?_⟩) ?_ ?_
                              rotate_left
                              · intro w'
                                go_simp
                                with_reducible rfl
                              rotate_left
                              · simp only [Act.put, List.setIfInBounds_toArray, List.set_cons_zero, List.set_cons_succ, i64_w, i32_w]
                                rfl
                              refine take_ (i := 2) (N := some 24) (v := ?_) (a' := ?_) #[true, true, true, true, true, false, false, false, true, false, false, false, false, false] rfl rfl (take_ofW HT_.out HW_.out (by kernel_rfl)) (fun _ _ _ h => h) (Or.inl ⟨by rfl, ?_⟩) hHeld ?_ ?_
                              rotate_left
                              · rintro w' ⟨s0, s1, s2, s3⟩
                                go_simp
                                with_reducible rfl
                              rotate_left
                              · simp only [Act.put, List.setIfInBounds_toArray, List.set_cons_zero, List.set_cons_succ, i64_w, i32_w]
                                rfl
                              refine take_ (i := 5) (N := some 27) (v := ?_) (a' := ?_) #[true, true, true, true, true, true, false, false, true, false, false, false, false, false] rfl rfl (take_ofW HT_.out HW_.out (by kernel_rfl)) (fun _ _ _ h => h) (Or.inl ⟨by rfl, ?_⟩) hHeld ?_ ?_
                              rotate_left
                              · rintro w' ⟨s0, s1, s2, s3⟩
                                go_simp
                                with_reducible rfl
                              rotate_left
                              · simp only [Act.put, List.setIfInBounds_toArray, List.set_cons_zero, List.set_cons_succ, i64_w, i32_w]
                                rfl
                              refine pure_ (i := 6) (N := some 28) (v := ?_) (a' := ?_) #[true, true, true, true, true, true, true, false, true, false, false, false, false, false] rfl rfl (any_of HT_.out (by kernel_rfl)) (fun _ _ _ h => h) (Or.inl ⟨by rfl, ?_⟩) ?_ ?_
                              rotate_left
                              · intro w'
                                go_simp
                                with_reducible rfl
                              rotate_left
                              · simp only [Act.put, List.setIfInBounds_toArray, List.set_cons_zero, List.set_cons_succ, i64_w, i32_w]
                                rfl
                              refine take_ (i := 7) (N := some 29) (v := ?_) (a' := ?_) #[true, true, true, true, true, true, true, true, true, false, false, false, false, false] rfl rfl (take_ofW HT_.out HW_.out (by kernel_rfl)) (fun _ _ _ h => h) (Or.inl ⟨by rfl, ?_⟩) hHeld ?_ ?_
                              rotate_left
                              · rintro w' ⟨s0, s1, s2, s3⟩
                                go_simp
                                with_reducible rfl
                              rotate_left
                              · simp only [Act.put, List.setIfInBounds_toArray, List.set_cons_zero, List.set_cons_succ, i64_w, i32_w]
                                rfl
                              refine take_ (i := 9) (N := some 31) (v := ?_) (a' := ?_) #[true, true, true, true, true, true, true, true, true, true, false, false, false, false] rfl rfl (take_ofW HT_.out HW_.out (by kernel_rfl)) (fun _ _ _ h => h) (Or.inl ⟨by rfl, ?_⟩) hHeld ?_ ?_
                              rotate_left
                              · rintro w' ⟨s0, s1, s2, s3⟩
                                go_simp
                                with_reducible rfl
                              rotate_left
                              · simp only [Act.put, List.setIfInBounds_toArray, List.set_cons_zero, List.set_cons_succ, i64_w, i32_w]
                                rfl
                              refine one_ (i := 10) (N := some 32) #[true, true, true, true, true, true, true, true, true, true, true, false, false, false] rfl rfl (one_of HT_.out (by kernel_rfl)) (by decide) (fun K hK => ?_)
                              refine value_ (w1 := ?_) (v := ?_) (by rfl) rfl ?_ ?_
                              rotate_left 2
                              · go_simp
                                constructor
                                · rfl
                                · rfl
                              refine hK.out _ _ ⟨(blk_cell (blk_alloc BK1006.out _) 0).trans rfl, (blk_cell (blk_alloc BK1006.out _) 1).trans rfl, (blk_cell (blk_alloc BK1006.out _) 2).trans rfl, (World.cell?_alloc_lt _ _ _ (World.block_lt_of_cell? _ _ (hHeld.2.2.2))).trans (hHeld.2.2.2)⟩ (fun hHeld => ?_)
                              clear hK K
                              refine norm_ (a' := ?_) ?_ ?_
                              rotate_left
                              · show Act.put _ (some 32) _ = _
                                simp only [Act.put, List.setIfInBounds_toArray, List.set_cons_zero, List.set_cons_succ, i64_w, i32_w]
                                rfl
                              refine one_ (i := 11) (N := some 33) #[true, true, true, true, true, true, true, true, true, true, true, true, false, false] rfl rfl (one_of HT_.out (by kernel_rfl)) (by decide) (fun K hK => ?_)
                              refine Kd.R_append_step (Kd.int .i64) (w0 := w) w.heap.size (by rfl) (.tmp 29) (.tmp 32) 28 3 (.int .i64 0) 8 rfl Try.underlying28 info3 rfl (by decide) (by omega) (.slice A1007_0 (rd_L5 x3_1 ((rd_T44 l0_1 x13_1).f0)).length c1007_0) (rd_L5 x3_1 ((rd_T44 l0_1 x13_1).f0)) ((rd_T44 l0_1 x13_1).f1) [.int .i64 ((rd_T44 l0_1 x13_1).f1)] (fun k_ => oki30 k_ ∨ ((fun _ => True)) k_ ∧ w28.heap.size ≤ k_) (fun _ => False) rfl rfl ?aP (fun _ hk => hk.elim) ?aF ?aO ?aB ?aS ?aL ?_
                              (case aP => exact rfl)
                              (case aB => exact (by repeat (first | (with_reducible first | exact HB.out | apply below_alloc | apply pw_below_drewN | apply below_drew1 | refine below_set ?_ GE1001.out | refine below_set ?_ GE1006.out) | exact HB.out)))
                              (case aF => exact (fun k_ hk => .inr ⟨trivial, hk⟩))
                              (case aO => exact (by (with_reducible repeat (first | apply Kd.R_alloc | apply Kd.R_drewN | apply Kd.R_drew)); exact Kd.R_mono UU30.out (fun _ hk => .inl hk)))
                              (case aS => exact (below_size (by repeat (first | (with_reducible first | exact HB.out | apply below_alloc | apply pw_below_drewN | apply below_drew1 | refine below_set ?_ GE1001.out | refine below_set ?_ GE1006.out) | exact HB.out))))
                              (case aL => have := LMc18.out; omega)
                              intro v1009 w31 ho hb hg hat
                              (first | have HS3_ := cell_grown hg (hHeld.2.2.2) (by first | (rw [add_block]; exact (fun e_ => ((HL1007_0.out.1 _ e_.symm).2) rfl)) | (show some (Addr.add _ _).block ≠ _; rw [add_block]; exact (fun e_ => ((HL1007_0.out.1 _ e_.symm).2) rfl)) | exact (fun e_ => ((HL1007_0.out.1 _ e_.symm).2) rfl)) | have HS3_ := cell_grown hg (cell_unalloc (hHeld.2.2.2) (by first | (rw [add_block]; exact Kd.S_lt HO_3.out _ rfl) | (show (Addr.add _ _).block < _; rw [add_block]; exact Kd.S_lt HO_3.out _ rfl) | exact Kd.S_lt HO_3.out _ rfl)) (by first | (rw [add_block]; exact (fun e_ => ((HL1007_0.out.1 _ e_.symm).2) rfl)) | (show some (Addr.add _ _).block ≠ _; rw [add_block]; exact (fun e_ => ((HL1007_0.out.1 _ e_.symm).2) rfl)) | exact (fun e_ => ((HL1007_0.out.1 _ e_.symm).2) rfl)))
                              rw [← Ny1008.out] at ho
                              have n0_ := Aside0.mk (blk_grown (g := gb1001) (o := .cells #[.int .i64 a0_0, .slice (some ad1005) l0_1.length c0_1] 24 (0, 0)) (by (with_reducible repeat (first | refine blk_drewN ?_ _ | refine blk_drew ?_ | refine blk_alloc ?_ _)); exact BK1001.out) hg (Kd.R_ne HL1007_0.out BK1001.out (by decide)))
                              have n1_ := Aside0.mk (blk_grown (g := gb1006) (o := .cells #[.int .i64 ((rd_T44 l0_1 x13_1).f0), .int .i64 ((rd_T44 l0_1 x13_1).f1), .int .u32 ((rd_T44 l0_1 x13_1).f2)] 44 (0, 0)) (by (with_reducible repeat (first | refine blk_drewN ?_ _ | refine blk_drew ?_ | refine blk_alloc ?_ _)); exact BK1006.out) hg (Kd.R_ne HL1007_0.out BK1006.out (by decide)))
                              have n2_ := Aside0.mk (hb)
                              have n3_ := Aside0.mk (Kd.H_grown (Kd.H_widen (by repeat (first | exact HH30.out | refine Kd.H_alloc ?_ _ | refine Kd.H_drewN ?_ _ | refine Kd.H_drew ?_))) hg (fun k_ e_ => .inl (UU30.out.1 k_ e_)))
                              have n4_ := Aside0.mk (ho)
                              clear BK1001
                              clear BK1006
                              clear HB
                              clear HH30
                              clear HO_3
                              clear UU30
                              clear HL1007_0
                              have BK1001 := n0_
                              have BK1006 := n1_
                              have HB := n2_
                              have HH30 := n3_
                              have HO1010 := n4_
                              clear n0_ n1_ n2_ n3_ n4_
                              clear ho hb hg hat
                              have p19 : 0 ≤ (((rd_T44 l0_1 x13_1).f0) : Int) := of_decide_eq_true (by first | (with_reducible assumption) | assumption)
                              have q19 : (((rd_T44 l0_1 x13_1).f0) : Int) < ((x3_1.length : Int) : Int) := of_decide_eq_true (by first | (with_reducible assumption) | assumption)
                              replace p19 := eq_true p19
                              replace q19 := eq_true q19
                              obtain ⟨Ao34, co34, eo34⟩ := Kd.R_slice HO1010.out
                              (first | subst eo34 | (injection eo34 with f1_ f2_ f3_; have f4_ := f1_.symm; have f5_ := f3_.symm; clear f1_ f2_ f3_; subst f4_; subst f5_))
                              obtain ⟨_, _, hraw32, _, _, hcc32, _⟩ := Kd.H_raw HH30.out (of_decide_eq_true (by first | (with_reducible assumption) | assumption)) (by have h_ : (((rd_T44 l0_1 x13_1).f0) : Int) < ((x3_1.length : Int) : Int) := of_decide_eq_true (by first | (with_reducible assumption) | assumption); first | exact h_ | (have e_ := (HN30.out); omega) | simpa using h_)
                              obtain ⟨_, hfr32⟩ := Kd.H_at HH30.out (of_decide_eq_true (by first | (with_reducible assumption) | assumption)) (by have h_ : (((rd_T44 l0_1 x13_1).f0) : Int) < ((x3_1.length : Int) : Int) := of_decide_eq_true (by first | (with_reducible assumption) | assumption); first | exact h_ | (have e_ := (HN30.out); omega) | simpa using h_)
                              have hx32_0 := hcc32 0 _ rfl
                              have hf32_0 := hfr32 0
                              (try simp only [Nat.add_zero] at hx32_0 hf32_0)
                              (try rw [show ((Kd.slice 3 (Kd.int .i64))).sz = 1 from rfl, Nat.mul_one] at hx32_0)
                              (try rw [show ((Kd.slice 3 (Kd.int .i64))).sz = 1 from rfl, Nat.mul_one] at hf32_0)
                              have HP32 := Kd.S_seg0 HH30.out (of_decide_eq_true (by first | (with_reducible assumption) | assumption)) (by have h_ : (((rd_T44 l0_1 x13_1).f0) : Int) < ((x3_1.length : Int) : Int) := of_decide_eq_true (by first | (with_reducible assumption) | assumption); first | exact h_ | (have e_ := (HN30.out); omega) | simpa using h_) (seg := [.slice Ao34 y1008.length co34]) (j := 0) (show 1 ≤ 1 from by decide) (x' := y1008) (Kd.M_row HO1010.out) (fun _ hk => hk)
                              (try simp only [show ((Kd.slice 3 (Kd.int .i64))).sz = 1 from rfl, Nat.mul_one, Nat.add_zero] at HP32)
                              clear hcc32 hfr32
                              have HNB1001_go30 := Aside0.mk (show gb1001 ≠ go30 from by have h_ := Kd.R_ne hraw32 BK1001.out (by decide); intro e_; exact h_ (by rw [e_]; rfl))
                              have HNB1006_go30 := Aside0.mk (show gb1006 ≠ go30 from by have h_ := Kd.R_ne hraw32 BK1006.out (by decide); intro e_; exact h_ (by rw [e_]; rfl))
                              have HS32 := HP32.1
                              rw [← Ny1011.out] at HS32
                              have HQ32 := Aside0.mk HS32
                              obtain ⟨_, hgg32⟩ := Kd.R_typed hraw32 go30 rfl
                              have GG32_ := Aside0.mk hgg32
                              clear HP32 HS32 hgg32
                              refine hK.out _ _ ⟨(blk_cell BK1006.out 0).trans rfl, (blk_cell BK1006.out 1).trans rfl, (blk_cell BK1006.out 2).trans rfl, HS3_⟩ (fun hHeld => ?_)
                              clear hK K
                              refine norm_ (a' := ?_) ?_ ?_
                              rotate_left
                              · show Act.put _ (some 33) _ = _
                                simp only [Act.put, List.setIfInBounds_toArray, List.set_cons_zero, List.set_cons_succ, i64_w, i32_w]
                                rfl
                              refine pure_ (i := 12) (N := some 34) (v := ?_) (a' := ?_) #[true, true, true, true, true, true, true, true, true, true, true, true, true, false] rfl rfl (any_of HT_.out (by kernel_rfl)) (fun _ _ _ h => h) (Or.inl ⟨by rfl, ?_⟩) ?_ ?_
                              rotate_left
                              · intro w'
                                go_simp
                                with_reducible rfl
                              rotate_left
                              · simp only [Act.put, List.setIfInBounds_toArray, List.set_cons_zero, List.set_cons_succ, i64_w, i32_w]
                                rfl
                              refine last_ (i := 13) (N := none) #[true, true, true, true, true, true, true, true, true, true, true, true, true, true] rfl rfl (one_of HT_.out (by kernel_rfl)) (by decide) (fun K hK => ?_)
                              refine skip_ (w1 := ?_) (by rfl) rfl ?_ ?_
                              rotate_left
                              · go_simp
                                rfl
                              refine hK.out _ _ ?_
                              clear hK K
                              refine done_ (done_of HT_.out (by kernel_rfl)) ?_
                              try go_wp2
                              have n0_ : Aside0 (Kd.S (Kd.slice 3 (Kd.int .i64)) 28 (w31.setCell ⟨go30, (((rd_T44 l0_1 x13_1).f0) : Int).toNat, none⟩ (.slice Ao34 y1008.length co34)) w.heap.size (fun _ => True) (.slice (some ⟨go30, 0, none⟩) x3_1.length co29) y1011) := ⟨by (with_reducible repeat (first | apply Kd.S_alloc | apply Kd.S_drewN | apply Kd.S_drew)); exact HQ32.out⟩
                              have n1_ : Aside0 ((w31.setCell ⟨go30, (((rd_T44 l0_1 x13_1).f0) : Int).toNat, none⟩ (.slice Ao34 y1008.length co34)).heap[gb1001]? = some (.cells #[.int .i64 a0_0, .slice (some ad1005) l0_1.length c0_1] 24 (0, 0))) := ⟨by (with_reducible repeat (first | refine blk_drewN ?_ _ | refine blk_drew ?_ | refine blk_alloc ?_ _)); refine blk_far ?_ HNB1001_go30.out _; (with_reducible repeat (first | refine blk_drewN ?_ _ | refine blk_drew ?_ | refine blk_alloc ?_ _)); exact BK1001.out⟩
                              have n2_ : Aside0 ((w31.setCell ⟨go30, (((rd_T44 l0_1 x13_1).f0) : Int).toNat, none⟩ (.slice Ao34 y1008.length co34)).heap[gb1006]? = some (.cells #[.int .i64 ((rd_T44 l0_1 x13_1).f0), .int .i64 ((rd_T44 l0_1 x13_1).f1), .int .u32 ((rd_T44 l0_1 x13_1).f2)] 44 (0, 0))) := ⟨by (with_reducible repeat (first | refine blk_drewN ?_ _ | refine blk_drew ?_ | refine blk_alloc ?_ _)); refine blk_far ?_ HNB1006_go30.out _; (with_reducible repeat (first | refine blk_drewN ?_ _ | refine blk_drew ?_ | refine blk_alloc ?_ _)); exact BK1006.out⟩
                              have n3_ : Aside0 (Below w.heap.size w (w31.setCell ⟨go30, (((rd_T44 l0_1 x13_1).f0) : Int).toNat, none⟩ (.slice Ao34 y1008.length co34))) := ⟨by repeat (first | (with_reducible first | exact HB.out | apply below_alloc | apply pw_below_drewN | apply below_drew1 | refine below_set ?_ GB30.out | refine below_set ?_ GE1001.out | refine below_set ?_ GE1006.out) | exact HB.out)⟩
                              (try clear HO_3)
                              (try clear BK1001)
                              (try clear BK1006)
                              (try clear HB)
                              generalize (w31.setCell ⟨go30, (((rd_T44 l0_1 x13_1).f0) : Int).toNat, none⟩ (.slice Ao34 y1008.length co34)) = w35 at n0_ n1_ n2_ n3_ ⊢
                              have HO_3 := n0_
                              have BK1001 := n1_
                              have BK1006 := n2_
                              have HB := n3_
                              clear n0_ n1_ n2_ n3_
                              have n0_ := Aside0.mk (Kd.S_drew HO_3.out)
                              have n1_ := Aside0.mk (blk_drew BK1001.out)
                              have n2_ := Aside0.mk (blk_drew BK1006.out)
                              have n3_ := Aside0.mk (below_drew1 HB.out)
                              clear HO_3
                              clear BK1001
                              clear BK1006
                              clear HB
                              have HO_3 := n0_
                              have BK1001 := n1_
                              have BK1006 := n2_
                              have HB := n3_
                              clear n0_ n1_ n2_ n3_
                              have p1012 : 0 ≤ (((rd_T44 l0_1 x13_1).f1) : Int) := of_decide_eq_true (by first | (with_reducible assumption) | assumption)
                              have q1012 : ((rd_T44 l0_1 x13_1).f1) < (y1011.length : Int) := (by have h_ : (((rd_T44 l0_1 x13_1).f1) : Int) < ((x3_1.length : Int) : Int) := of_decide_eq_true (by first | (with_reducible assumption) | assumption); first | (have e_ := (Kd.S_reads' HO_3.out).1; omega) | simpa only [Ny1011.out, List.length_set] using h_)
                              have ql1012 : ((((rd_T44 l0_1 x13_1).f1) : Int) < ((x3_1.length : Int) : Int)) = True := eq_true (of_decide_eq_true (by first | (with_reducible assumption) | assumption))
                              obtain ⟨ad1012, A1012_0, c1012_0, e1012, hx1012_0, hl1012_0, hi1012_0⟩ := at_L5 (Kd.S_reads' HO_3.out).2.2 ((rd_T44 l0_1 x13_1).f1) p1012 q1012
                              obtain rfl : (⟨go30, 0, none⟩ : Addr) = ad1012 := (by injection e1012)
                              obtain ⟨ce1012, hce1012, hMe1012, hcc1012⟩ := Kd.S_get HO_3.out [] ((rd_T44 l0_1 x13_1).f1) p1012 (by first | exact q1012 | exact of_decide_eq_true (by first | (with_reducible assumption) | assumption) | (have e_ := (Kd.S_reads' HO_3.out).1; omega))
                              obtain ⟨ve1012_0, rfl, ge1012_0⟩ := hMe1012
                              have hv1012_0 := hcc1012 0 _ rfl
                              rw [Nat.add_zero, show ((Kd.slice 3 (Kd.int .i64))).sz = 1 from rfl, Nat.mul_one] at hv1012_0
                              replace hv1012_0 := Option.some.inj (hv1012_0.symm.trans hx1012_0)
                              rw [hv1012_0] at ge1012_0
                              have HL1012_0 := Aside0.mk (show Kd.R (Kd.int .i64) 3 _ _ _ _ (rd_L5 y1011 ((rd_T44 l0_1 x13_1).f1)) from ge1012_0)
                              clear hv1012_0 ge1012_0
                              have HX1012_0 := Aside0.mk hx1012_0
                              clear hcc1012 hce1012
                              (first | simp only [add_plain] at hx1012_0 | simp only [add_at] at hx1012_0 | simp only [Addr.add, Nat.zero_add] at hx1012_0 | skip)
                              have HR1012_0 := Aside0.mk hi1012_0
                              have HC1012_0 := Aside0.mk hl1012_0
                              clear hi1012_0 hl1012_0
                              replace p1012 := eq_true p1012
                              replace q1012 := eq_true q1012
                              obtain ⟨oki37, ce37, hcl37, hM37, hcc37, _, _, hH37⟩ := Kd.S_elem HO_3.out [] (((rd_T44 l0_1 x13_1).f1) : Int) (of_decide_eq_true (by first | (with_reducible assumption) | assumption)) (by have h_ : (((rd_T44 l0_1 x13_1).f1) : Int) < ((x3_1.length : Int) : Int) := of_decide_eq_true (by first | (with_reducible assumption) | assumption); first | exact h_ | (have e_ := (Kd.S_reads' HO_3.out).1; omega) | simpa using h_)
                              obtain ⟨ve37_0, rfl, ge37_0⟩ := hM37
                              have hv37 := hcc37 0 _ rfl
                              have hX37 := HX1012_0.out
                              (try simp only [add_plain] at hX37)
                              (try simp only [Nat.add_zero] at hv37)
                              (try rw [show ((Kd.slice 3 (Kd.int .i64))).sz = 1 from rfl, Nat.mul_one] at hv37)
                              replace hv37 := Option.some.inj (hv37.symm.trans hX37)
                              subst hv37
                              clear hX37 hcc37 hcl37
                              have UU37 := Aside0.mk (show Kd.R (Kd.int .i64) 3 _ w.heap.size oki37 (.slice A1012_0 (rd_L5 y1011 ((rd_T44 l0_1 x13_1).f1)).length c1012_0) (rd_L5 y1011 ((rd_T44 l0_1 x13_1).f1)) from ge37_0)
                              have HH37 := Aside0.mk hH37
                              have HN37 := Aside0.mk (Kd.S_reads' HO_3.out).1
                              clear hH37 ge37_0
                              refine start_ (n := 14) (S := fun w' => w'.cell? ⟨gb1006, 0, none⟩ = some (.int .i64 ((rd_T44 l0_1 x13_1).f0)) ∧ w'.cell? ⟨gb1006, 1, none⟩ = some (.int .i64 ((rd_T44 l0_1 x13_1).f1)) ∧ w'.cell? ⟨gb1006, 2, none⟩ = some (.int .u32 ((rd_T44 l0_1 x13_1).f2)) ∧ w'.cell? ⟨go30, (((rd_T44 l0_1 x13_1).f1)).toNat, none⟩ = some (.slice A1012_0 (rd_L5 y1011 ((rd_T44 l0_1 x13_1).f1)).length c1012_0)) (ds := [13]) #[false, false, false, false, false, false, false, false, false, false, false, false, false, false] (by kernel_rfl) rfl rfl ⟨(blk_cell BK1006.out 0).trans rfl, (blk_cell BK1006.out 1).trans rfl, (blk_cell BK1006.out 2).trans rfl, hx1012_0⟩ (fun hHeld => ?_); refine with_tabW grow_sides.tab7 grow_sides.bits7 (fun HT_ HW_ => ?_)
                              generalize w35.drew = w36 at HO_3 BK1001 BK1006 HB HH37 HL1012_0 HQ32 HR1012_0 HX1012_0 UU37 hx1012_0 hHeld ⊢
                              refine pure_ (i := 0) (N := some 35) (v := ?_) (a' := ?_) #[true, false, false, false, false, false, false, false, false, false, false, false, false, false] rfl rfl (any_of HT_.out (by kernel_rfl)) (fun _ _ _ h => h) (Or.inl ⟨by rfl, ?_⟩) ?_ ?_
                              rotate_left
                              · intro w'
                                go_simp
                                with_reducible rfl
                              rotate_left
                              · simp only [Act.put, List.setIfInBounds_toArray, List.set_cons_zero, List.set_cons_succ, i64_w, i32_w]
                                rfl
                              refine pure_ (i := 1) (N := some 36) (v := ?_) (a' := ?_) #[true, true, false, false, false, false, false, false, false, false, false, false, false, false] rfl rfl (any_of HT_.out (by kernel_rfl)) (fun _ _ _ h => h) (Or.inl ⟨by rfl, ?_⟩) ?_ ?_
                              rotate_left
                              · intro w'
                                go_simp
                                with_reducible rfl
                              rotate_left
                              · simp only [Act.put, List.setIfInBounds_toArray, List.set_cons_zero, List.set_cons_succ, i64_w, i32_w]
                                rfl
                              refine pure_ (i := 3) (N := some 38) (v := ?_) (a' := ?_) #[true, true, false, true, false, false, false, false, false, false, false, false, false, false] rfl rfl (any_of HT_.out (by kernel_rfl)) (fun _ _ _ h => h) (Or.inl ⟨by rfl, ?_⟩) ?_ ?_
                              rotate_left
                              · intro w'
                                go_simp
                                with_reducible rfl
                              rotate_left
                              · simp only [Act.put, List.setIfInBounds_toArray, List.set_cons_zero, List.set_cons_succ, i64_w, i32_w]
                                rfl
                              refine pure_ (i := 4) (N := some 39) (v := ?_) (a' := ?_) #[true, true, false, true, true, false, false, false, false, false, false, false, false, false] rfl rfl (any_of HT_.out (by kernel_rfl)) (fun _ _ _ h => h) (Or.inl ⟨by rfl, ?_⟩) ?_ ?_
                              rotate_left
                              · intro w'
                                go_simp
                                with_reducible rfl
                              rotate_left
                              · simp only [Act.put, List.setIfInBounds_toArray, List.set_cons_zero, List.set_cons_succ, i64_w, i32_w]
                                rfl
                              refine pure_ (i := 8) (N := some 43) (v := ?_) (a' := ?_) #[true, true, false, true, true, false, false, false, true, false, false, false, false, false] rfl rfl (any_of HT_.out (by kernel_rfl)) (fun _ _ _ h => h) (Or.inl ⟨by rfl, ?_⟩) ?_ ?_
                              rotate_left
                              · intro w'
                                go_simp
                                with_reducible rfl
                              rotate_left
                              · simp only [Act.put, List.setIfInBounds_toArray, List.set_cons_zero, List.set_cons_succ, i64_w, i32_w]
                                rfl
                              refine take_ (i := 2) (N := some 37) (v := ?_) (a' := ?_) #[true, true, true, true, true, false, false, false, true, false, false, false, false, false] rfl rfl (take_ofW HT_.out HW_.out (by kernel_rfl)) (fun _ _ _ h => h) (Or.inl ⟨by rfl, ?_⟩) hHeld ?_ ?_
                              rotate_left
                              · rintro w' ⟨s0, s1, s2, s3⟩
                                go_simp
                                with_reducible rfl
                              rotate_left
                              · simp only [Act.put, List.setIfInBounds_toArray, List.set_cons_zero, List.set_cons_succ, i64_w, i32_w]
                                rfl
                              refine take_ (i := 5) (N := some 40) (v := ?_) (a' := ?_) #[true, true, true, true, true, true, false, false, true, false, false, false, false, false] rfl rfl (take_ofW HT_.out HW_.out (by kernel_rfl)) (fun _ _ _ h => h) (Or.inl ⟨by rfl, ?_⟩) hHeld ?_ ?_
                              rotate_left
                              · rintro w' ⟨s0, s1, s2, s3⟩
                                go_simp
                                with_reducible rfl
                              rotate_left
                              · simp only [Act.put, List.setIfInBounds_toArray, List.set_cons_zero, List.set_cons_succ, i64_w, i32_w]
                                rfl
                              refine pure_ (i := 6) (N := some 41) (v := ?_) (a' := ?_) #[true, true, true, true, true, true, true, false, true, false, false, false, false, false] rfl rfl (any_of HT_.out (by kernel_rfl)) (fun _ _ _ h => h) (Or.inl ⟨by rfl, ?_⟩) ?_ ?_
                              rotate_left
                              · intro w'
                                go_simp
                                with_reducible rfl
                              rotate_left
                              · simp only [Act.put, List.setIfInBounds_toArray, List.set_cons_zero, List.set_cons_succ, i64_w, i32_w]
                                rfl
                              refine take_ (i := 7) (N := some 42) (v := ?_) (a' := ?_) #[true, true, true, true, true, true, true, true, true, false, false, false, false, false] rfl rfl (take_ofW HT_.out HW_.out (by kernel_rfl)) (fun _ _ _ h => h) (Or.inl ⟨by rfl, ?_⟩) hHeld ?_ ?_
                              rotate_left
                              · rintro w' ⟨s0, s1, s2, s3⟩
                                go_simp
                                with_reducible rfl
                              rotate_left
                              · simp only [Act.put, List.setIfInBounds_toArray, List.set_cons_zero, List.set_cons_succ, i64_w, i32_w]
                                rfl
                              refine take_ (i := 9) (N := some 44) (v := ?_) (a' := ?_) #[true, true, true, true, true, true, true, true, true, true, false, false, false, false] rfl rfl (take_ofW HT_.out HW_.out (by kernel_rfl)) (fun _ _ _ h => h) (Or.inl ⟨by rfl, ?_⟩) hHeld ?_ ?_
                              rotate_left
                              · rintro w' ⟨s0, s1, s2, s3⟩
                                go_simp
                                with_reducible rfl
                              rotate_left
                              · simp only [Act.put, List.setIfInBounds_toArray, List.set_cons_zero, List.set_cons_succ, i64_w, i32_w]
                                rfl
                              refine one_ (i := 10) (N := some 45) #[true, true, true, true, true, true, true, true, true, true, true, false, false, false] rfl rfl (one_of HT_.out (by kernel_rfl)) (by decide) (fun K hK => ?_)
                              refine value_ (w1 := ?_) (v := ?_) (by rfl) rfl ?_ ?_
                              rotate_left 2
                              · go_simp
                                constructor
                                · rfl
                                · rfl
                              refine hK.out _ _ ⟨(blk_cell (blk_alloc BK1006.out _) 0).trans rfl, (blk_cell (blk_alloc BK1006.out _) 1).trans rfl, (blk_cell (blk_alloc BK1006.out _) 2).trans rfl, (World.cell?_alloc_lt _ _ _ (World.block_lt_of_cell? _ _ (hHeld.2.2.2))).trans (hHeld.2.2.2)⟩ (fun hHeld => ?_)
                              clear hK K
                              refine norm_ (a' := ?_) ?_ ?_
                              rotate_left
                              · show Act.put _ (some 45) _ = _
                                simp only [Act.put, List.setIfInBounds_toArray, List.set_cons_zero, List.set_cons_succ, i64_w, i32_w]
                                rfl
                              refine one_ (i := 11) (N := some 46) #[true, true, true, true, true, true, true, true, true, true, true, true, false, false] rfl rfl (one_of HT_.out (by kernel_rfl)) (by decide) (fun K hK => ?_)
                              refine Kd.R_append_step (Kd.int .i64) (w0 := w) w.heap.size (by rfl) (.tmp 42) (.tmp 45) 28 3 (.int .i64 0) 8 rfl Try.underlying28 info3 rfl (by decide) (by omega) (.slice A1012_0 (rd_L5 y1011 ((rd_T44 l0_1 x13_1).f1)).length c1012_0) (rd_L5 y1011 ((rd_T44 l0_1 x13_1).f1)) ((rd_T44 l0_1 x13_1).f0) [.int .i64 ((rd_T44 l0_1 x13_1).f0)] (fun k_ => oki37 k_ ∨ ((fun _ => True)) k_ ∧ w36.heap.size ≤ k_) (fun _ => False) rfl rfl ?aP (fun _ hk => hk.elim) ?aF ?aO ?aB ?aS ?aL ?_
                              (case aP => exact rfl)
                              (case aB => exact (by repeat (first | (with_reducible first | exact HB.out | apply below_alloc | apply pw_below_drewN | apply below_drew1 | refine below_set ?_ GE1001.out | refine below_set ?_ GE1006.out) | exact HB.out)))
                              (case aF => exact (fun k_ hk => .inr ⟨trivial, hk⟩))
                              (case aO => exact (by (with_reducible repeat (first | apply Kd.R_alloc | apply Kd.R_drewN | apply Kd.R_drew)); exact Kd.R_mono UU37.out (fun _ hk => .inl hk)))
                              (case aS => exact (below_size (by repeat (first | (with_reducible first | exact HB.out | apply below_alloc | apply pw_below_drewN | apply below_drew1 | refine below_set ?_ GE1001.out | refine below_set ?_ GE1006.out) | exact HB.out))))
                              (case aL => have := LMc22.out; omega)
                              intro v1014 w38 ho hb hg hat
                              (first | have HS3_ := cell_grown hg (hHeld.2.2.2) (by first | (rw [add_block]; exact (fun e_ => ((HL1012_0.out.1 _ e_.symm).2) rfl)) | (show some (Addr.add _ _).block ≠ _; rw [add_block]; exact (fun e_ => ((HL1012_0.out.1 _ e_.symm).2) rfl)) | exact (fun e_ => ((HL1012_0.out.1 _ e_.symm).2) rfl)) | have HS3_ := cell_grown hg (cell_unalloc (hHeld.2.2.2) (by first | (rw [add_block]; exact Kd.S_lt HO_3.out _ rfl) | (show (Addr.add _ _).block < _; rw [add_block]; exact Kd.S_lt HO_3.out _ rfl) | exact Kd.S_lt HO_3.out _ rfl)) (by first | (rw [add_block]; exact (fun e_ => ((HL1012_0.out.1 _ e_.symm).2) rfl)) | (show some (Addr.add _ _).block ≠ _; rw [add_block]; exact (fun e_ => ((HL1012_0.out.1 _ e_.symm).2) rfl)) | exact (fun e_ => ((HL1012_0.out.1 _ e_.symm).2) rfl)))
                              rw [← Ny1013.out] at ho
                              have n0_ := Aside0.mk (blk_grown (g := gb1001) (o := .cells #[.int .i64 a0_0, .slice (some ad1005) l0_1.length c0_1] 24 (0, 0)) (by (with_reducible repeat (first | refine blk_drewN ?_ _ | refine blk_drew ?_ | refine blk_alloc ?_ _)); exact BK1001.out) hg (Kd.R_ne HL1012_0.out BK1001.out (by decide)))
                              have n1_ := Aside0.mk (blk_grown (g := gb1006) (o := .cells #[.int .i64 ((rd_T44 l0_1 x13_1).f0), .int .i64 ((rd_T44 l0_1 x13_1).f1), .int .u32 ((rd_T44 l0_1 x13_1).f2)] 44 (0, 0)) (by (with_reducible repeat (first | refine blk_drewN ?_ _ | refine blk_drew ?_ | refine blk_alloc ?_ _)); exact BK1006.out) hg (Kd.R_ne HL1012_0.out BK1006.out (by decide)))
                              have n2_ := Aside0.mk (hb)
                              have n3_ := Aside0.mk (Kd.H_grown (Kd.H_widen (by repeat (first | exact HH37.out | refine Kd.H_alloc ?_ _ | refine Kd.H_drewN ?_ _ | refine Kd.H_drew ?_))) hg (fun k_ e_ => .inl (UU37.out.1 k_ e_)))
                              have n4_ := Aside0.mk (ho)
                              clear BK1001
                              clear BK1006
                              clear HB
                              clear HH37
                              clear HO_3
                              clear UU37
                              clear HL1012_0
                              have BK1001 := n0_
                              have BK1006 := n1_
                              have HB := n2_
                              have HH37 := n3_
                              have HO1015 := n4_
                              clear n0_ n1_ n2_ n3_ n4_
                              clear ho hb hg hat
                              have p23 : 0 ≤ (((rd_T44 l0_1 x13_1).f1) : Int) := of_decide_eq_true (by first | (with_reducible assumption) | assumption)
                              have q23 : (((rd_T44 l0_1 x13_1).f1) : Int) < ((x3_1.length : Int) : Int) := of_decide_eq_true (by first | (with_reducible assumption) | assumption)
                              replace p23 := eq_true p23
                              replace q23 := eq_true q23
                              obtain ⟨Ao41, co41, eo41⟩ := Kd.R_slice HO1015.out
                              (first | subst eo41 | (injection eo41 with f1_ f2_ f3_; have f4_ := f1_.symm; have f5_ := f3_.symm; clear f1_ f2_ f3_; subst f4_; subst f5_))
                              obtain ⟨_, _, hraw39, _, _, hcc39, _⟩ := Kd.H_raw HH37.out (of_decide_eq_true (by first | (with_reducible assumption) | assumption)) (by have h_ : (((rd_T44 l0_1 x13_1).f1) : Int) < ((x3_1.length : Int) : Int) := of_decide_eq_true (by first | (with_reducible assumption) | assumption); first | exact h_ | (have e_ := (HN37.out); omega) | simpa using h_)
                              obtain ⟨_, hfr39⟩ := Kd.H_at HH37.out (of_decide_eq_true (by first | (with_reducible assumption) | assumption)) (by have h_ : (((rd_T44 l0_1 x13_1).f1) : Int) < ((x3_1.length : Int) : Int) := of_decide_eq_true (by first | (with_reducible assumption) | assumption); first | exact h_ | (have e_ := (HN37.out); omega) | simpa using h_)
                              have hx39_0 := hcc39 0 _ rfl
                              have hf39_0 := hfr39 0
                              (try simp only [Nat.add_zero] at hx39_0 hf39_0)
                              (try rw [show ((Kd.slice 3 (Kd.int .i64))).sz = 1 from rfl, Nat.mul_one] at hx39_0)
                              (try rw [show ((Kd.slice 3 (Kd.int .i64))).sz = 1 from rfl, Nat.mul_one] at hf39_0)
                              have HP39 := Kd.S_seg0 HH37.out (of_decide_eq_true (by first | (with_reducible assumption) | assumption)) (by have h_ : (((rd_T44 l0_1 x13_1).f1) : Int) < ((x3_1.length : Int) : Int) := of_decide_eq_true (by first | (with_reducible assumption) | assumption); first | exact h_ | (have e_ := (HN37.out); omega) | simpa using h_) (seg := [.slice Ao41 y1013.length co41]) (j := 0) (show 1 ≤ 1 from by decide) (x' := y1013) (Kd.M_row HO1015.out) (fun _ hk => hk)
                              (try simp only [show ((Kd.slice 3 (Kd.int .i64))).sz = 1 from rfl, Nat.mul_one, Nat.add_zero] at HP39)
                              clear hcc39 hfr39
                              have HNB1001_go30 := Aside0.mk (show gb1001 ≠ go30 from by have h_ := Kd.R_ne hraw39 BK1001.out (by decide); intro e_; exact h_ (by rw [e_]; rfl))
                              have HNB1006_go30 := Aside0.mk (show gb1006 ≠ go30 from by have h_ := Kd.R_ne hraw39 BK1006.out (by decide); intro e_; exact h_ (by rw [e_]; rfl))
                              have HS39 := HP39.1
                              rw [← Ny1016.out] at HS39
                              have HQ39 := Aside0.mk HS39
                              obtain ⟨_, hgg39⟩ := Kd.R_typed hraw39 go30 rfl
                              have GG39_ := Aside0.mk hgg39
                              clear HP39 HS39 hgg39
                              refine hK.out _ _ ⟨(blk_cell BK1006.out 0).trans rfl, (blk_cell BK1006.out 1).trans rfl, (blk_cell BK1006.out 2).trans rfl, HS3_⟩ (fun hHeld => ?_)
                              clear hK K
                              refine norm_ (a' := ?_) ?_ ?_
                              rotate_left
                              · show Act.put _ (some 46) _ = _
                                simp only [Act.put, List.setIfInBounds_toArray, List.set_cons_zero, List.set_cons_succ, i64_w, i32_w]
                                rfl
                              refine pure_ (i := 12) (N := some 47) (v := ?_) (a' := ?_) #[true, true, true, true, true, true, true, true, true, true, true, true, true, false] rfl rfl (any_of HT_.out (by kernel_rfl)) (fun _ _ _ h => h) (Or.inl ⟨by rfl, ?_⟩) ?_ ?_
                              rotate_left
                              · intro w'
                                go_simp
                                with_reducible rfl
                              rotate_left
                              · simp only [Act.put, List.setIfInBounds_toArray, List.set_cons_zero, List.set_cons_succ, i64_w, i32_w]
                                rfl
                              refine last_ (i := 13) (N := none) #[true, true, true, true, true, true, true, true, true, true, true, true, true, true] rfl rfl (one_of HT_.out (by kernel_rfl)) (by decide) (fun K hK => ?_)
                              refine skip_ (w1 := ?_) (by rfl) rfl ?_ ?_
                              rotate_left
                              · go_simp
                                rfl
                              refine hK.out _ _ ?_
                              clear hK K
                              refine done_ (done_of HT_.out (by kernel_rfl)) ?_
                              try go_wp2
                              go_roundg k1
                              case measure => have := HK1.out; omega
                              case rel => exact ⟨(y1016), (wrap64 (x13_1 + 1)), (by first | rfl | (simp; done) | (simp [*]; done)), H', ⟨by have := HK1.out; omega⟩, ⟨by (with_reducible repeat (first | apply Kd.S_alloc | apply Kd.S_drewN | apply Kd.S_drew)); exact HQ39.out⟩, ⟨by (with_reducible repeat (first | refine blk_drewN ?_ _ | refine blk_drew ?_ | refine blk_alloc ?_ _)); refine blk_far ?_ HNB1001_go30.out _; (with_reducible repeat (first | refine blk_drewN ?_ _ | refine blk_drew ?_ | refine blk_alloc ?_ _)); exact BK1001.out⟩, ⟨by repeat (first | (with_reducible first | exact HB.out | apply below_alloc | apply pw_below_drewN | apply below_drew1 | refine below_set ?_ GB30.out | refine below_set ?_ GE1001.out | refine below_set ?_ GE1006.out) | exact HB.out)⟩⟩
                            · rw [if_neg c22] at H
                              exact absurd H (by simp)
                          · rw [if_neg c21] at H
                            exact absurd H (by simp)
                        · rw [if_neg c20] at H
                          exact absurd H (by simp)
                      · rw [if_neg c18] at H
                        exact absurd H (by simp)
                    · rw [if_neg c17] at H
                      exact absurd H (by simp)
                  · rw [if_neg c16] at H
                    exact absurd H (by simp)
              · rw [if_neg c11] at H
                exact absurd H (by simp)
            · rw [if_neg c10] at H
              exact absurd H (by simp)
          · rw [if_neg c9] at H
            have c9b0 : decide (x13_1 < (l0_1.length : Int)) = false := decide_eq_false c9
            clear c9
            obtain rfl := Option.some.inj H
            have hz := HPOS.out
            obtain ⟨g3, c3, e3, hb3, hg3, cells3, hh3⟩ := Kd.S_form HO_3.out hz
            subst e3
            have hcap3 := (Kd.S_reads' HO_3.out).2.1
            have hc3 : x3_1.length ≤ 9223372036854775807 := (Kd.S_reads' HO_3.out).2.2.2.1
            clear HPOS hh3 BK1001
            go_wp2
            go_loopw [51] (fun i w2 => ∃ j : Nat, j ≤ x3_1.length ∧ i = .int .i64 j ∧ Aside0 (Kd.S (Kd.slice 3 (Kd.int .i64)) 28 w2 w.heap.size (fun _ => True) (.slice (some ⟨g3, 0, none⟩) x3_1.length c3) (sidesDone j x3_1)) ∧ Aside0 (Below w.heap.size w w2)) (fun i _ => x3_1.length - (intOf i).toNat)
            case atStart => exact ⟨0, Nat.zero_le _, rfl, ⟨by rw [sidesDone_zero]; exact HO_3.out⟩, HB⟩
            case round =>
              clear HO_3 HB
              obtain ⟨j, hj, rfl, HS, HB⟩ := hrel
              by_cases hlt : j < x3_1.length
              · have hS1 : Kd.S (Kd.slice 3 (Kd.int .i64)) 28 wr w.heap.size (fun k => True ∧ ¬ wr.heap.size ≤ k) (.slice (some ⟨g3, 0, none⟩) x3_1.length c3) (sidesDone j x3_1) := Kd.S_mono (Kd.S_bound HS.out) (fun k hk => ⟨trivial, by omega⟩)
                obtain ⟨oki, c, hcl, hM, hcc, hfz, hok, hH⟩ := Kd.S_elem hS1 [] (j : Int) (by omega) (by omega)
                obtain ⟨sv, rfl, hR⟩ := hM
                rw [Int.toNat_natCast, sidesDone_get j x3_1 hlt] at hR
                have hlj := HLEN.out _ (List.getElem_mem hlt)
                have hnx := Aside0.mk (sidesDone_set j x3_1 hlt)
                generalize hL : x3_1[j] = L at hR hlj hnx
                clear hL
                have hcell : wr.cell? ⟨g3, j, none⟩ = some sv := by
                  have := hcc 0 sv rfl
                  simpa [Kd.slice] using this
                have hg3r : g3 < wr.heap.size := World.block_lt_of_cell? wr _ hcell
                have hfr : wr.frozen? ⟨g3, j, none⟩ = false := by
                  have := hfz 0
                  simpa [Kd.slice] using this
                obtain ⟨As, cs, es⟩ := Kd.R_slice hR
                have hcellS : wr.cell? ⟨g3, j, none⟩ = some (.slice As L.length cs) := es ▸ hcell
                have HX := Aside0.mk hH
                have HYY := Aside0.mk hok
                have HRR := Aside0.mk hR
                have Hes := Aside0.mk es
                clear hH hok hR hcell hcc hfz hS1 es hcl
                go_wp2_with fail
                refine (slices_Sort_int_int.calls oki (.slice As L.length cs) L _ w wr HB.out (by rw [← Hes.out]; exact HRR.out) (by unfold slices_Sort_int_int.f; rw [if_pos hlj])).mono ?_
                rintro e w2 ⟨rfl, hR2, hB2, hK2⟩
                have hb2 : w2.heap[g3]? = wr.heap[g3]? := hK2.2 g3 hg3r (fun h => (HYY.out _ h).2 rfl)
                have hc2 : w2.cell? ⟨g3, j, none⟩ = some (.slice As L.length cs) := (World.cell?_of_block hb2).trans hcellS
                have hs2 := hK2.1
                have HR2 := Aside0.mk hR2
                have HB2 := Aside0.mk hB2
                have HK2 := Aside0.mk hK2
                have Hb2 := Aside0.mk hb2
                clear hR2 hB2 hK2 hcellS hb2
                go_wp2_with fail
                refine (slices_Compact_int_int.calls (fun k => oki k ∨ wr.heap.size ≤ k) (.slice As L.length cs) (isort L) _ w w2 HB2.out HR2.out rfl).mono ?_
                rintro e w3 ⟨v3, rfl, hR3, hB3, hK3⟩
                have hb3 : w3.heap[g3]? = w2.heap[g3]? := hK3.2 g3 (by omega) (fun h => h.elim (fun h => (HYY.out _ h).2 rfl) (fun h => by omega))
                have hc3' : w3.cell? ⟨g3, j, none⟩ = some (.slice As L.length cs) := (World.cell?_of_block hb3).trans hc2
                have hf3 : w3.frozen? ⟨g3, j, none⟩ = false := by
                  rw [← hfr]
                  unfold World.frozen?
                  rw [show w3.heap[g3]? = wr.heap[g3]? from hb3.trans Hb2.out]
                obtain ⟨A6, c6, e6⟩ := Kd.R_slice hR3
                have hs3 := hK3.1
                have hH3 := Kd.H_step HX.out (w1 := w3) (fun k hk hn hlt => by
                  have h1 := HK2.out.2 k hlt hn
                  have h2 := hK3.2 k (by omega) (fun h => h.elim hn (fun h => by omega))
                  exact h2.trans h1)
                have hS3 := Kd.S_seg (okg := fun k => wr.heap.size ≤ k) (x' := sideOf L) (okp := fun k => (oki k ∨ wr.heap.size ≤ k) ∨ w2.heap.size ≤ k) (seg := [v3]) (j := 0) (ok := fun _ => True) hH3 (by omega) (by omega) (by simp [Kd.slice]) ⟨v3, by simp, hR3⟩ (fun k hk => by rcases hk with (h | h) | h; exact .inl h; exact .inr h; exact .inr (by omega)) (fun k hk => ⟨trivial, by omega⟩)
                rw [Int.toNat_natCast, hnx.out] at hS3
                have HS3 := Aside0.mk hS3
                have HB3 := Aside0.mk hB3
                clear hS3 hH3 hR3 hB3 hK3 hb3 HX HYY HRR Hes HR2 HB2 HK2 Hb2 HS HB hc2 hfr hnx
                subst e6
                go_wp2
                go_roundw
                case rel => exact ⟨j + 1, by omega, by go_num, ⟨by have := HS3.out.1; simpa [Kd.slice, World.setCells] using this⟩, ⟨HB3.out.setCell (p := ⟨g3, j, none⟩) hb3 _⟩⟩
                case measure => simp [intOf]; omega
              · go_wp2
                go_ret
                obtain rfl : j = x3_1.length := by omega
                exact ⟨_, rfl, by rw [← sidesDone_all]; exact HS.out, HB.out⟩
    · rw [if_neg c3] at H
      exact absurd H (by simp)
  · rw [if_neg c2] at H
    exact absurd H (by simp)

end Go.Proofs.Ytihaddejjgaepaa.G

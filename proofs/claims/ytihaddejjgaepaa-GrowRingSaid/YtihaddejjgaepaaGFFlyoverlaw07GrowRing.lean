-- printed by gprint.py (a wrapper of this session's round the kit's print)
import Derived.Test.YtihaddejjgaepaaGx0
import Derived.Test.YtihaddejjgaepaaGFFlyoverlaw07Large
import Derived.Test.YtihaddejjgaepaaGFFlyoverlaw07Works
import Derived.Test.YtihaddejjgaepaaGFGraphNeighbours
import Derived.Test.YtihaddejjgaepaaHgrow
import Derived.Test.YtihaddejjgaepaaHring
namespace Go.Proofs.Ytihaddejjgaepaa.G
open Go.RowKit Go.Proofs.YtihaddejjgaepaaW.PrintWords Go.Proofs.YtihaddejjgaepaaW.PrintLast Go.Proofs.YtihaddejjgaepaaW.PrintMore
attribute [local go_sem] max2_int min2_int max_two min_two max_three min_three max_four min_four   -- for this text's walks alone
set_option linter.unusedVariables false
set_option linter.unusedSimpArgs false

/-! ### flyoverlaw07_GrowRing: function 4 -/
mutual
def flyoverlaw07_GrowRing.l0 : Nat → List Int → Int → List Bool → List Bool → List Int → Int → Int → Int → List (S44) → Option (Bool)
  | 0, _, _, _, _, _, _, _, _, _ => none
  | k + 1, x9, x10, x11, x12, x51, x52, x53, x1002000, x1002001 => if x53 < x52 then (if 0 ≤ x53 then (if x53 < (x51.length : Int) then (if 0 ≤ (rd x51 x53) then (if (rd x51 x53) < (x11.length : Int) then (flyoverlaw07_GrowRing.l0 k x9 x10 (x11.set ((rd x51 x53) : Int).toNat true) x12 x51 x52 (wrap64 (x53 + 1)) x1002000 x1002001) else (none)) else (none)) else (none)) else (none)) else (flyoverlaw07_GrowRing.l1 k x10 x11 x12 x9 (x9.length : Int) 0 x1002000 x1002001)
def flyoverlaw07_GrowRing.l1 : Nat → Int → List Bool → List Bool → List Int → Int → Int → Int → List (S44) → Option (Bool)
  | 0, _, _, _, _, _, _, _, _ => none
  | k + 1, x10, x11, x12, x61, x62, x63, x1002000, x1002001 => if x63 < x62 then (if 0 ≤ x63 then (if x63 < (x61.length : Int) then (if (rd x61 x63) < 0 then (some false) else (if (rd x61 x63) ≥ x1002000 then (some false) else (if 0 ≤ (rd x61 x63) then (if (rd x61 x63) < (x11.length : Int) then (if rdOf false x11 (rd x61 x63) = true then (some false) else (if (rd x61 x63) < (x12.length : Int) then (if rdOf false x12 (rd x61 x63) = true then (some false) else (flyoverlaw07_GrowRing.l1 k x10 x11 (x12.set ((rd x61 x63) : Int).toNat true) x61 x62 (wrap64 (x63 + 1)) x1002000 x1002001)) else (none))) else (none)) else (none)))) else (none)) else (none)) else (flyoverlaw07_GrowRing.l2 k x10 x11 x12 x1002000 0 x1002000 x1002001)
def flyoverlaw07_GrowRing.l2 : Nat → Int → List Bool → List Bool → Int → Int → Int → List (S44) → Option (Bool)
  | 0, _, _, _, _, _, _, _ => none
  | k + 1, x10, x11, x12, x92, x93, x1002000, x1002001 => if x93 < x92 then ((graph_Neighbours.f k x1002000 x1002001 x93).bind fun bt1024 => (flyoverlaw07_GrowRing.l3 k x10 x11 x12 x93 bt1024.2 false x92 x93 bt1024.1 (bt1024.1.length : Int) 0 x1002000 x1002001)) else (some (x10 == 0))
def flyoverlaw07_GrowRing.l3 : Nat → Int → List Bool → List Bool → Int → Int → Bool → Int → Int → List Int → Int → Int → Int → List (S44) → Option (Bool)
  | 0, _, _, _, _, _, _, _, _, _, _, _, _, _ => none
  | k + 1, x10, x11, x12, x17, x19, x20, x92, x93, x102, x103, x104, x1002000, x1002001 => if x104 < x103 then (if 0 ≤ x104 then (if x104 < (x102.length : Int) then (if x20 = true then (flyoverlaw07_GrowRing.l3 k x10 x11 x12 x17 x19 true x92 x93 x102 x103 (wrap64 (x104 + 1)) x1002000 x1002001) else (if 0 ≤ (rd x102 x104) then (if (rd x102 x104) < (x11.length : Int) then (flyoverlaw07_GrowRing.l3 k x10 x11 x12 x17 x19 (rdOf false x11 (rd x102 x104)) x92 x93 x102 x103 (wrap64 (x104 + 1)) x1002000 x1002001) else (none)) else (none))) else (none)) else (none)) else (if x19 = 0 then (if 0 ≤ x17 then (if x17 < (x11.length : Int) then (if rdOf false x11 x17 = true then (flyoverlaw07_GrowRing.l2 k x10 x11 x12 x92 (wrap64 (x93 + 1)) x1002000 x1002001) else (if x17 < (x12.length : Int) then (if (x20 != (rdOf false x12 x17)) = true then (some false) else (flyoverlaw07_GrowRing.l2 k x10 x11 x12 x92 (wrap64 (x93 + 1)) x1002000 x1002001)) else (none))) else (none)) else (none)) else (some false))
end
def flyoverlaw07_GrowRing.f (k : Nat) (a0_0 : Int) (l0_1 : List (S44)) (a1 : Int) (a2 : Int) : Option (Bool) := (flyoverlaw07_works.f k).bind fun t1002 => (if t1002 = true then ((flyoverlaw07_large.f a0_0 l0_1).bind fun t1003 => (if t1003 = true then (some true) else ((grow_Region.f a0_0 l0_1 a1 a2).bind fun bt1004 => (if bt1004.2 = 0 then ((grow_Ring.f a0_0 l0_1 bt1004.1).bind fun bt1008 => (if 0 ≤ a0_0 then (if (a0_0 : Int).toNat ≤ 281474976710656 then (flyoverlaw07_GrowRing.l0 k bt1008.1 bt1008.2 (List.replicate (a0_0 : Int).toNat false) (List.replicate (a0_0 : Int).toNat false) bt1004.1 (bt1004.1.length : Int) 0 a0_0 l0_1) else (none)) else (none))) else (some ((bt1004.1.length : Int) == 0)))))) else (some false))
theorem flyoverlaw07_GrowRing.mono_l : ∀ k, (∀ y0 y1 y2 y3 y4 y5 y6 y7 y8, LeO (flyoverlaw07_GrowRing.l0 k y0 y1 y2 y3 y4 y5 y6 y7 y8) (flyoverlaw07_GrowRing.l0 (k + 1) y0 y1 y2 y3 y4 y5 y6 y7 y8)) ∧ (∀ y0 y1 y2 y3 y4 y5 y6 y7, LeO (flyoverlaw07_GrowRing.l1 k y0 y1 y2 y3 y4 y5 y6 y7) (flyoverlaw07_GrowRing.l1 (k + 1) y0 y1 y2 y3 y4 y5 y6 y7)) ∧ (∀ y0 y1 y2 y3 y4 y5 y6, LeO (flyoverlaw07_GrowRing.l2 k y0 y1 y2 y3 y4 y5 y6) (flyoverlaw07_GrowRing.l2 (k + 1) y0 y1 y2 y3 y4 y5 y6)) ∧ (∀ y0 y1 y2 y3 y4 y5 y6 y7 y8 y9 y10 y11 y12, LeO (flyoverlaw07_GrowRing.l3 k y0 y1 y2 y3 y4 y5 y6 y7 y8 y9 y10 y11 y12) (flyoverlaw07_GrowRing.l3 (k + 1) y0 y1 y2 y3 y4 y5 y6 y7 y8 y9 y10 y11 y12))
  | 0 => ⟨fun _ _ _ _ _ _ _ _ _ r h => by simp [flyoverlaw07_GrowRing.l0] at h, fun _ _ _ _ _ _ _ _ r h => by simp [flyoverlaw07_GrowRing.l1] at h, fun _ _ _ _ _ _ _ r h => by simp [flyoverlaw07_GrowRing.l2] at h, fun _ _ _ _ _ _ _ _ _ _ _ _ _ r h => by simp [flyoverlaw07_GrowRing.l3] at h⟩
  | k + 1 => by
    obtain ⟨ih0, ih1, ih2, ih3⟩ := flyoverlaw07_GrowRing.mono_l k
    refine ⟨?_, ?_, ?_, ?_⟩
    · intro y0 y1 y2 y3 y4 y5 y6 y7 y8
      unfold flyoverlaw07_GrowRing.l0
      repeat' first
      | (with_reducible exact ih0 _ _ _ _ _ _ _ _ _)
      | (with_reducible exact ih1 _ _ _ _ _ _ _ _)
      | (with_reducible exact ih2 _ _ _ _ _ _ _)
      | (with_reducible exact ih3 _ _ _ _ _ _ _ _ _ _ _ _ _)
      | (with_reducible exact flyoverlaw07_works.mono _)
      | (with_reducible exact graph_Neighbours.mono _ _ _ _)
      | (with_reducible exact LeO.refl _)
      | (with_reducible exact LeO.none _)
      | (with_reducible refine LeO.ite ?_ ?_)
      | (with_reducible refine LeO.bind ?_ (fun _ => ?_))
      | exact ih0 _ _ _ _ _ _ _ _ _
      | exact ih1 _ _ _ _ _ _ _ _
      | exact ih2 _ _ _ _ _ _ _
      | exact ih3 _ _ _ _ _ _ _ _ _ _ _ _ _
      | exact flyoverlaw07_works.mono _
      | exact graph_Neighbours.mono _ _ _ _
      | exact LeO.none _
      | refine LeO.ite ?_ ?_
      | refine LeO.bind ?_ (fun _ => ?_)
    · intro y0 y1 y2 y3 y4 y5 y6 y7
      unfold flyoverlaw07_GrowRing.l1
      repeat' first
      | (with_reducible exact ih0 _ _ _ _ _ _ _ _ _)
      | (with_reducible exact ih1 _ _ _ _ _ _ _ _)
      | (with_reducible exact ih2 _ _ _ _ _ _ _)
      | (with_reducible exact ih3 _ _ _ _ _ _ _ _ _ _ _ _ _)
      | (with_reducible exact flyoverlaw07_works.mono _)
      | (with_reducible exact graph_Neighbours.mono _ _ _ _)
      | (with_reducible exact LeO.refl _)
      | (with_reducible exact LeO.none _)
      | (with_reducible refine LeO.ite ?_ ?_)
      | (with_reducible refine LeO.bind ?_ (fun _ => ?_))
      | exact ih0 _ _ _ _ _ _ _ _ _
      | exact ih1 _ _ _ _ _ _ _ _
      | exact ih2 _ _ _ _ _ _ _
      | exact ih3 _ _ _ _ _ _ _ _ _ _ _ _ _
      | exact flyoverlaw07_works.mono _
      | exact graph_Neighbours.mono _ _ _ _
      | exact LeO.none _
      | refine LeO.ite ?_ ?_
      | refine LeO.bind ?_ (fun _ => ?_)
    · intro y0 y1 y2 y3 y4 y5 y6
      unfold flyoverlaw07_GrowRing.l2
      repeat' first
      | (with_reducible exact ih0 _ _ _ _ _ _ _ _ _)
      | (with_reducible exact ih1 _ _ _ _ _ _ _ _)
      | (with_reducible exact ih2 _ _ _ _ _ _ _)
      | (with_reducible exact ih3 _ _ _ _ _ _ _ _ _ _ _ _ _)
      | (with_reducible exact flyoverlaw07_works.mono _)
      | (with_reducible exact graph_Neighbours.mono _ _ _ _)
      | (with_reducible exact LeO.refl _)
      | (with_reducible exact LeO.none _)
      | (with_reducible refine LeO.ite ?_ ?_)
      | (with_reducible refine LeO.bind ?_ (fun _ => ?_))
      | exact ih0 _ _ _ _ _ _ _ _ _
      | exact ih1 _ _ _ _ _ _ _ _
      | exact ih2 _ _ _ _ _ _ _
      | exact ih3 _ _ _ _ _ _ _ _ _ _ _ _ _
      | exact flyoverlaw07_works.mono _
      | exact graph_Neighbours.mono _ _ _ _
      | exact LeO.none _
      | refine LeO.ite ?_ ?_
      | refine LeO.bind ?_ (fun _ => ?_)
    · intro y0 y1 y2 y3 y4 y5 y6 y7 y8 y9 y10 y11 y12
      unfold flyoverlaw07_GrowRing.l3
      repeat' first
      | (with_reducible exact ih0 _ _ _ _ _ _ _ _ _)
      | (with_reducible exact ih1 _ _ _ _ _ _ _ _)
      | (with_reducible exact ih2 _ _ _ _ _ _ _)
      | (with_reducible exact ih3 _ _ _ _ _ _ _ _ _ _ _ _ _)
      | (with_reducible exact flyoverlaw07_works.mono _)
      | (with_reducible exact graph_Neighbours.mono _ _ _ _)
      | (with_reducible exact LeO.refl _)
      | (with_reducible exact LeO.none _)
      | (with_reducible refine LeO.ite ?_ ?_)
      | (with_reducible refine LeO.bind ?_ (fun _ => ?_))
      | exact ih0 _ _ _ _ _ _ _ _ _
      | exact ih1 _ _ _ _ _ _ _ _
      | exact ih2 _ _ _ _ _ _ _
      | exact ih3 _ _ _ _ _ _ _ _ _ _ _ _ _
      | exact flyoverlaw07_works.mono _
      | exact graph_Neighbours.mono _ _ _ _
      | exact LeO.none _
      | refine LeO.ite ?_ ?_
      | refine LeO.bind ?_ (fun _ => ?_)
theorem flyoverlaw07_GrowRing.mono : ∀ a0 a1 a2 a3 k, LeO (flyoverlaw07_GrowRing.f k a0 a1 a2 a3) (flyoverlaw07_GrowRing.f (k + 1) a0 a1 a2 a3) := by
  intro a0 a1 a2 a3 k
  obtain ⟨ih0, ih1, ih2, ih3⟩ := flyoverlaw07_GrowRing.mono_l k
  unfold flyoverlaw07_GrowRing.f
  repeat' first
      | (with_reducible exact ih0 _ _ _ _ _ _ _ _ _)
      | (with_reducible exact ih1 _ _ _ _ _ _ _ _)
      | (with_reducible exact ih2 _ _ _ _ _ _ _)
      | (with_reducible exact ih3 _ _ _ _ _ _ _ _ _ _ _ _ _)
      | (with_reducible exact flyoverlaw07_works.mono _)
      | (with_reducible exact graph_Neighbours.mono _ _ _ _)
      | (with_reducible exact LeO.refl _)
      | (with_reducible exact LeO.none _)
      | (with_reducible refine LeO.ite ?_ ?_)
      | (with_reducible refine LeO.bind ?_ (fun _ => ?_))
      | exact ih0 _ _ _ _ _ _ _ _ _
      | exact ih1 _ _ _ _ _ _ _ _
      | exact ih2 _ _ _ _ _ _ _
      | exact ih3 _ _ _ _ _ _ _ _ _ _ _ _ _
      | exact flyoverlaw07_works.mono _
      | exact graph_Neighbours.mono _ _ _ _
      | exact LeO.none _
      | refine LeO.ite ?_ ?_
      | refine LeO.bind ?_ (fun _ => ?_)
def flyoverlaw07_GrowRing.T9 : Bool × List (List Nat × List Nat) := (true, [([], []), ([0], [0]), ([1, 1], [1]), ([], []), ([3], [3]), ([4, 4], [4]), ([2, 0, 1, 2], [2]), ([5, 6, 0, 1, 2, 3, 4, 5, 6], [5])])
def flyoverlaw07_GrowRing.B9 : List Nat := [0, 1, 3, 0, 8, 24, 7, 127]
theorem flyoverlaw07_GrowRing.tab9 : rtab .any (opsOf Try.f4 9) = flyoverlaw07_GrowRing.T9 := by kernel_rfl
theorem flyoverlaw07_GrowRing.bits9 : waitsOk flyoverlaw07_GrowRing.T9.2 flyoverlaw07_GrowRing.B9 = true := by kernel_rfl
set_option maxHeartbeats 8000000 in
set_option maxRecDepth 100000 in
theorem flyoverlaw07_GrowRing.calls (k : Nat) (a0_0 : Int) (A0_1 : Option Addr) (c0_1 : Nat) (l0_1 : List (S44)) (a1 : Int) (a2 : Int) (r : Bool) (w : World) (hr0_1 : Kd.C k44 w A0_1 l0_1.length l0_1) (hc0_1 : l0_1.length ≤ c0_1) (h : flyoverlaw07_GrowRing.f k a0_0 l0_1 a1 a2 = some r) :
    Calls Try.prog 4 #[.agg #[.int .i64 a0_0, .slice A0_1 l0_1.length c0_1], .int .i64 a1, .int .i64 a2] w fun e w' => e = .returned (.bool r) ∧ Below w.heap.size w w' := by
  have hu24 := Try.underlying24
  have HR0_1 := Aside0.mk hr0_1
  have HC0_1 := Aside0.mk hc0_1
  clear hr0_1 hc0_1
  have HB := Aside0.mk (Below.refl w.heap.size w)
  have H : ((flyoverlaw07_works.f k).bind fun t1002 => (if t1002 = true then ((flyoverlaw07_large.f a0_0 l0_1).bind fun t1003 => (if t1003 = true then (some true) else ((grow_Region.f a0_0 l0_1 a1 a2).bind fun bt1004 => (if bt1004.2 = 0 then ((grow_Ring.f a0_0 l0_1 bt1004.1).bind fun bt1008 => (if 0 ≤ a0_0 then (if (a0_0 : Int).toNat ≤ 281474976710656 then (flyoverlaw07_GrowRing.l0 k bt1008.1 bt1008.2 (List.replicate (a0_0 : Int).toNat false) (List.replicate (a0_0 : Int).toNat false) bt1004.1 (bt1004.1.length : Int) 0 a0_0 l0_1) else (none)) else (none))) else (some ((bt1004.1.length : Int) == 0)))))) else (some false))) = some r := h
  clear h
  replace H := Option.bind_eq_some_iff.mp H
  obtain ⟨t1002, A40, H⟩ := H
  replace H : (if t1002 = true then ((flyoverlaw07_large.f a0_0 l0_1).bind fun t1003 => (if t1003 = true then (some true) else ((grow_Region.f a0_0 l0_1 a1 a2).bind fun bt1004 => (if bt1004.2 = 0 then ((grow_Ring.f a0_0 l0_1 bt1004.1).bind fun bt1008 => (if 0 ≤ a0_0 then (if (a0_0 : Int).toNat ≤ 281474976710656 then (flyoverlaw07_GrowRing.l0 k bt1008.1 bt1008.2 (List.replicate (a0_0 : Int).toNat false) (List.replicate (a0_0 : Int).toNat false) bt1004.1 (bt1004.1.length : Int) 0 a0_0 l0_1) else (none)) else (none))) else (some ((bt1004.1.length : Int) == 0)))))) else (some false)) = some r := H
  have A4 := Aside0.mk A40
  clear A40
  by_cases c5 : t1002 = true
  · subst c5
    have H1 : ((flyoverlaw07_large.f a0_0 l0_1).bind fun t1003 => (if t1003 = true then (some true) else ((grow_Region.f a0_0 l0_1 a1 a2).bind fun bt1004 => (if bt1004.2 = 0 then ((grow_Ring.f a0_0 l0_1 bt1004.1).bind fun bt1008 => (if 0 ≤ a0_0 then (if (a0_0 : Int).toNat ≤ 281474976710656 then (flyoverlaw07_GrowRing.l0 k bt1008.1 bt1008.2 (List.replicate (a0_0 : Int).toNat false) (List.replicate (a0_0 : Int).toNat false) bt1004.1 (bt1004.1.length : Int) 0 a0_0 l0_1) else (none)) else (none))) else (some ((bt1004.1.length : Int) == 0)))))) = some r := by rw [if_pos rfl] at H; exact H
    clear H
    have H := H1
    clear H1
    replace H := Option.bind_eq_some_iff.mp H
    obtain ⟨t1003, A60, H⟩ := H
    replace H : (if t1003 = true then (some true) else ((grow_Region.f a0_0 l0_1 a1 a2).bind fun bt1004 => (if bt1004.2 = 0 then ((grow_Ring.f a0_0 l0_1 bt1004.1).bind fun bt1008 => (if 0 ≤ a0_0 then (if (a0_0 : Int).toNat ≤ 281474976710656 then (flyoverlaw07_GrowRing.l0 k bt1008.1 bt1008.2 (List.replicate (a0_0 : Int).toNat false) (List.replicate (a0_0 : Int).toNat false) bt1004.1 (bt1004.1.length : Int) 0 a0_0 l0_1) else (none)) else (none))) else (some ((bt1004.1.length : Int) == 0))))) = some r := H
    have A6 := Aside0.mk A60
    clear A60
    by_cases c7 : t1003 = true
    · subst c7
      have H1 : (some true) = some r := by rw [if_pos rfl] at H; exact H
      clear H
      have H := H1
      clear H1
      obtain rfl := Option.some.inj H
      go_enter Try.func4, Try.ntmps4
      go_wp2_with (first | ((with_reducible refine gate_dst (N := 3) rfl ?_); refine box_event ?hg (N := 3) ?hd (cs := #[.int .i64 a0_0, .slice A0_1 l0_1.length c0_1]) (t := 24) ?hr ?_; (case hd => rfl); (case hg => rfl); (case hr => first | (go_simp; done) | (go_simp; rfl)); intro gb1001 hg w8 hbox hb; have n0_ := Aside0.mk (below_step (by repeat (first | (with_reducible first | exact HB.out | apply below_alloc | apply pw_below_drewN | apply below_drew1) | exact HB.out)) hb); have n1_ := Aside0.mk (hbox); have n2_ := Aside0.mk ((by rw [hg]; exact (below_size (by repeat (first | (with_reducible first | exact HB.out | apply below_alloc | apply pw_below_drewN | apply below_drew1) | exact HB.out))) : w.heap.size ≤ gb1001)); have n3_ := Aside0.mk ((by rw [hg]; exact (below_size (by repeat (first | (with_reducible first | exact HB.out | apply below_alloc | apply pw_below_drewN | apply below_drew1) | exact HB.out))) : w.heap.size ≤ gb1001)); clear HB; have HB := n0_; have BK1001 := n1_; have GW1001 := n2_; have GE1001 := n3_; clear n0_ n1_ n2_ n3_; clear hb hbox hg) | ((with_reducible refine gate_callee (f := 7) rfl ?_); refine goesL_ (some 23) rfl rfl Try.func7 (by kernel_rfl) rfl #[] rfl (by (try simp only [List.map_toArray, List.map_cons, List.map_nil]); first | done | rfl | (simp only [List.length_drop, List.length_take]; rfl)) ?_; (with_reducible refine (flyoverlaw07_works.calls k  true _ A4.out).mono ?_); rintro e w9 ⟨rfl, hb⟩; refine ⟨_, rfl, ?_⟩; have n0_ := Aside0.mk (blk_below (g := gb1001) (o := .cells #[.int .i64 a0_0, .slice A0_1 l0_1.length c0_1] 24 (0, 0)) (by (with_reducible repeat (first | refine blk_drewN ?_ _ | refine blk_drew ?_ | refine blk_alloc ?_ _)); exact BK1001.out) hb); have n1_ := Aside0.mk (below_step (by repeat (first | (with_reducible first | exact HB.out | apply below_alloc | apply pw_below_drewN | apply below_drew1 | refine below_set ?_ GE1001.out) | exact HB.out)) hb); clear BK1001; clear HB; have BK1001 := n0_; have HB := n1_; clear n0_ n1_; (try clear hb); (try clear hb2); (try clear hk); (try clear hi); have hcz10_0 : w9.cell? ⟨gb1001, 0, none⟩ = some (.int .i64 a0_0) := (blk_cell BK1001.out 0).trans rfl; have hcz10_1 : w9.cell? ⟨gb1001, 1, none⟩ = some (.slice A0_1 l0_1.length c0_1) := (blk_cell BK1001.out 1).trans rfl; have hfz10_0 := blk_frozen BK1001.out 0; have hfz10_1 := blk_frozen BK1001.out 1) | ((with_reducible refine gate_callee (f := 6) rfl ?_); refine goesL_ (some 26) rfl rfl Try.func6 (by kernel_rfl) rfl #[.agg #[.int .i64 a0_0, .slice A0_1 l0_1.length c0_1]] rfl (by (try simp only [List.map_toArray, List.map_cons, List.map_nil]); first | done | rfl | (simp only [List.length_drop, List.length_take]; rfl)) ?_; (with_reducible refine (flyoverlaw07_large.calls a0_0 _ _ l0_1 true _ ?side1 ?side2 A6.out).mono ?_); (case side1 => repeat (first | exact (Kd.C_below HR0_1.out HB.out) | (with_reducible refine Kd.C_alloc ?_ _) | (with_reducible refine Kd.C_drewN ?_ _) | (with_reducible refine Kd.C_drew ?_))); (case side2 => exact HC0_1.out); rintro e w11 ⟨rfl, hb⟩; refine ⟨_, rfl, ?_⟩; have n0_ := Aside0.mk (blk_below (g := gb1001) (o := .cells #[.int .i64 a0_0, .slice A0_1 l0_1.length c0_1] 24 (0, 0)) (by (with_reducible repeat (first | refine blk_drewN ?_ _ | refine blk_drew ?_ | refine blk_alloc ?_ _)); exact BK1001.out) hb); have n1_ := Aside0.mk (below_step (by repeat (first | (with_reducible first | exact HB.out | apply below_alloc | apply pw_below_drewN | apply below_drew1 | refine below_set ?_ GE1001.out) | exact HB.out)) hb); clear BK1001; clear HB; have BK1001 := n0_; have HB := n1_; clear n0_ n1_; (try clear hb); (try clear hb2); (try clear hk); (try clear hi)))
      go_ret
      exact ⟨by first | rfl | (simp [errW_none, errW_some] <;> rfl) | (simp [*, errW_none, errW_some] <;> rfl), by repeat (first | (with_reducible first | exact HB.out | apply below_alloc | apply pw_below_drewN | apply below_drew1 | refine below_set ?_ GE1001.out) | exact HB.out)⟩
    · replace c7 := Bool.eq_false_iff.mpr c7
      subst c7
      have H1 : ((grow_Region.f a0_0 l0_1 a1 a2).bind fun bt1004 => (if bt1004.2 = 0 then ((grow_Ring.f a0_0 l0_1 bt1004.1).bind fun bt1008 => (if 0 ≤ a0_0 then (if (a0_0 : Int).toNat ≤ 281474976710656 then (flyoverlaw07_GrowRing.l0 k bt1008.1 bt1008.2 (List.replicate (a0_0 : Int).toNat false) (List.replicate (a0_0 : Int).toNat false) bt1004.1 (bt1004.1.length : Int) 0 a0_0 l0_1) else (none)) else (none))) else (some ((bt1004.1.length : Int) == 0)))) = some r := by rw [if_neg (show ¬ (false = true) by decide)] at H; exact H
      clear H
      have H := H1
      clear H1
      replace H := Option.bind_eq_some_iff.mp H
      obtain ⟨⟨t1004, t1007⟩, A120, H⟩ := H
      replace H : (if t1007 = 0 then ((grow_Ring.f a0_0 l0_1 t1004).bind fun bt1008 => (if 0 ≤ a0_0 then (if (a0_0 : Int).toNat ≤ 281474976710656 then (flyoverlaw07_GrowRing.l0 k bt1008.1 bt1008.2 (List.replicate (a0_0 : Int).toNat false) (List.replicate (a0_0 : Int).toNat false) t1004 (t1004.length : Int) 0 a0_0 l0_1) else (none)) else (none))) else (some ((t1004.length : Int) == 0))) = some r := H
      have A12 := Aside0.mk A120
      clear A120
      by_cases c13 : t1007 = 0
      · rw [if_pos c13] at H
        have c13b0 : (t1007 == 0) = true := beq_iff_eq.mpr c13
        have c13b1 : (t1007 != 0) = false := bne_eq_false_iff_eq.mpr c13
        clear c13
        replace H := Option.bind_eq_some_iff.mp H
        obtain ⟨⟨t1008, t1011⟩, A140, H⟩ := H
        replace H : (if 0 ≤ a0_0 then (if (a0_0 : Int).toNat ≤ 281474976710656 then (flyoverlaw07_GrowRing.l0 k t1008 t1011 (List.replicate (a0_0 : Int).toNat false) (List.replicate (a0_0 : Int).toNat false) t1004 (t1004.length : Int) 0 a0_0 l0_1) else (none)) else (none)) = some r := H
        have A14 := Aside0.mk A140
        clear A140
        by_cases c15 : 0 ≤ a0_0
        · rw [if_pos c15] at H
          have c15b0 := eq_true c15
          have c15b1 : decide (0 ≤ a0_0) = true := decide_eq_true c15
          clear c15
          by_cases c16 : (a0_0 : Int).toNat ≤ 281474976710656
          · rw [if_pos c16] at H
            have c16b0 := eq_true c16
            have c16b1 : decide ((a0_0 : Int).toNat ≤ 281474976710656) = true := decide_eq_true c16
            clear c16
            obtain ⟨y1012, hy1012⟩ : ∃ y_ : List Bool, y_ = (List.replicate (a0_0 : Int).toNat false) := ⟨_, rfl⟩
            replace H : (flyoverlaw07_GrowRing.l0 k t1008 t1011 y1012 (List.replicate (a0_0 : Int).toNat false) t1004 (t1004.length : Int) 0 a0_0 l0_1) = some r := by first | (rw [hy1012]; with_reducible exact H) | (have H2_ := (Option.bind_some _ _).symm.trans H; rw [hy1012]; with_reducible exact H2_) | (have H2_ := (Option.bind_some _ _).symm.trans H; with_reducible exact H2_) | with_reducible exact H | (rw [hy1012]; exact H) | exact H
            have Ny1012 := Aside0.mk hy1012
            clear hy1012
            obtain ⟨y1015, hy1015⟩ : ∃ y_ : List Bool, y_ = (List.replicate (a0_0 : Int).toNat false) := ⟨_, rfl⟩
            replace H : (flyoverlaw07_GrowRing.l0 k t1008 t1011 y1012 y1015 t1004 (t1004.length : Int) 0 a0_0 l0_1) = some r := by first | (rw [hy1015]; with_reducible exact H) | (have H2_ := (Option.bind_some _ _).symm.trans H; rw [hy1015]; with_reducible exact H2_) | (have H2_ := (Option.bind_some _ _).symm.trans H; with_reducible exact H2_) | with_reducible exact H | (rw [hy1015]; exact H) | exact H
            have Ny1015 := Aside0.mk hy1015
            clear hy1015
            have H' := Aside0.mk H
            clear H
            go_enter Try.func4, Try.ntmps4
            try go_wp2_with (first | ((with_reducible refine gate_dst (N := 3) rfl ?_); refine box_event ?hg (N := 3) ?hd (cs := #[.int .i64 a0_0, .slice A0_1 l0_1.length c0_1]) (t := 24) ?hr ?_; (case hd => rfl); (case hg => rfl); (case hr => first | (go_simp; done) | (go_simp; rfl)); intro gb1001 hg w17 hbox hb; have n0_ := Aside0.mk (below_step (by repeat (first | (with_reducible first | exact HB.out | apply below_alloc | apply pw_below_drewN | apply below_drew1) | exact HB.out)) hb); have n1_ := Aside0.mk (hbox); have n2_ := Aside0.mk ((by rw [hg]; exact (below_size (by repeat (first | (with_reducible first | exact HB.out | apply below_alloc | apply pw_below_drewN | apply below_drew1) | exact HB.out))) : w.heap.size ≤ gb1001)); have n3_ := Aside0.mk ((by rw [hg]; exact (below_size (by repeat (first | (with_reducible first | exact HB.out | apply below_alloc | apply pw_below_drewN | apply below_drew1) | exact HB.out))) : w.heap.size ≤ gb1001)); clear HB; have HB := n0_; have BK1001 := n1_; have GW1001 := n2_; have GE1001 := n3_; clear n0_ n1_ n2_ n3_; clear hb hbox hg) | ((with_reducible refine gate_callee (f := 7) rfl ?_); refine goesL_ (some 23) rfl rfl Try.func7 (by kernel_rfl) rfl #[] rfl (by (try simp only [List.map_toArray, List.map_cons, List.map_nil]); first | done | rfl | (simp only [List.length_drop, List.length_take]; rfl)) ?_; (with_reducible refine (flyoverlaw07_works.calls k  true _ A4.out).mono ?_); rintro e w18 ⟨rfl, hb⟩; refine ⟨_, rfl, ?_⟩; have n0_ := Aside0.mk (blk_below (g := gb1001) (o := .cells #[.int .i64 a0_0, .slice A0_1 l0_1.length c0_1] 24 (0, 0)) (by (with_reducible repeat (first | refine blk_drewN ?_ _ | refine blk_drew ?_ | refine blk_alloc ?_ _)); exact BK1001.out) hb); have n1_ := Aside0.mk (below_step (by repeat (first | (with_reducible first | exact HB.out | apply below_alloc | apply pw_below_drewN | apply below_drew1 | refine below_set ?_ GE1001.out) | exact HB.out)) hb); clear BK1001; clear HB; have BK1001 := n0_; have HB := n1_; clear n0_ n1_; (try clear hb); (try clear hb2); (try clear hk); (try clear hi); have hcz19_0 : w18.cell? ⟨gb1001, 0, none⟩ = some (.int .i64 a0_0) := (blk_cell BK1001.out 0).trans rfl; have hcz19_1 : w18.cell? ⟨gb1001, 1, none⟩ = some (.slice A0_1 l0_1.length c0_1) := (blk_cell BK1001.out 1).trans rfl; have hfz19_0 := blk_frozen BK1001.out 0; have hfz19_1 := blk_frozen BK1001.out 1) | ((with_reducible refine gate_callee (f := 6) rfl ?_); refine goesL_ (some 26) rfl rfl Try.func6 (by kernel_rfl) rfl #[.agg #[.int .i64 a0_0, .slice A0_1 l0_1.length c0_1]] rfl (by (try simp only [List.map_toArray, List.map_cons, List.map_nil]); first | done | rfl | (simp only [List.length_drop, List.length_take]; rfl)) ?_; (with_reducible refine (flyoverlaw07_large.calls a0_0 _ _ l0_1 false _ ?side1 ?side2 A6.out).mono ?_); (case side1 => repeat (first | exact (Kd.C_below HR0_1.out HB.out) | (with_reducible refine Kd.C_alloc ?_ _) | (with_reducible refine Kd.C_drewN ?_ _) | (with_reducible refine Kd.C_drew ?_))); (case side2 => exact HC0_1.out); rintro e w20 ⟨rfl, hb⟩; refine ⟨_, rfl, ?_⟩; have n0_ := Aside0.mk (blk_below (g := gb1001) (o := .cells #[.int .i64 a0_0, .slice A0_1 l0_1.length c0_1] 24 (0, 0)) (by (with_reducible repeat (first | refine blk_drewN ?_ _ | refine blk_drew ?_ | refine blk_alloc ?_ _)); exact BK1001.out) hb); have n1_ := Aside0.mk (below_step (by repeat (first | (with_reducible first | exact HB.out | apply below_alloc | apply pw_below_drewN | apply below_drew1 | refine below_set ?_ GE1001.out) | exact HB.out)) hb); clear BK1001; clear HB; have BK1001 := n0_; have HB := n1_; clear n0_ n1_; (try clear hb); (try clear hb2); (try clear hk); (try clear hi); have hcz21_0 : w20.cell? ⟨gb1001, 0, none⟩ = some (.int .i64 a0_0) := (blk_cell BK1001.out 0).trans rfl; have hcz21_1 : w20.cell? ⟨gb1001, 1, none⟩ = some (.slice A0_1 l0_1.length c0_1) := (blk_cell BK1001.out 1).trans rfl; have hfz21_0 := blk_frozen BK1001.out 0; have hfz21_1 := blk_frozen BK1001.out 1) | ((with_reducible refine gate_callee (f := 9) rfl ?_); refine goesL_ (some 31) rfl rfl Try.func9 (by kernel_rfl) rfl #[.agg #[.int .i64 a0_0, .slice A0_1 l0_1.length c0_1], .int .i64 a1, .int .i64 a2] rfl (by (try simp only [List.map_toArray, List.map_cons, List.map_nil]); first | done | rfl | (simp only [List.length_drop, List.length_take]; rfl)) ?_; (with_reducible refine (grow_Region.calls a0_0 _ _ l0_1 a1 a2 t1004 t1007 _ ?side1 ?side2 A12.out).mono ?_); (case side1 => repeat (first | exact (Kd.C_below HR0_1.out HB.out) | (with_reducible refine Kd.C_alloc ?_ _) | (with_reducible refine Kd.C_drewN ?_ _) | (with_reducible refine Kd.C_drew ?_))); (case side2 => exact HC0_1.out); rintro e w22 ⟨v1005, rfl, ho0, hb⟩; refine ⟨_, rfl, ?_⟩; have n0_ := Aside0.mk (Kd.R_lower ho0 (below_size (by repeat (first | (with_reducible first | exact HB.out | apply below_alloc | apply pw_below_drewN | apply below_drew1 | refine below_set ?_ GE1001.out) | exact HB.out)))); have n1_ := Aside0.mk (blk_below (g := gb1001) (o := .cells #[.int .i64 a0_0, .slice A0_1 l0_1.length c0_1] 24 (0, 0)) (by (with_reducible repeat (first | refine blk_drewN ?_ _ | refine blk_drew ?_ | refine blk_alloc ?_ _)); exact BK1001.out) hb); have n2_ := Aside0.mk (below_step (by repeat (first | (with_reducible first | exact HB.out | apply below_alloc | apply pw_below_drewN | apply below_drew1 | refine below_set ?_ GE1001.out) | exact HB.out)) hb); clear BK1001; clear HB; have HO1006 := n0_; have BK1001 := n1_; have HB := n2_; clear n0_ n1_ n2_; (try clear hb); (try clear hb2); (try clear hk); (try clear hi); (try clear ho0); have hcz23_0 : w22.cell? ⟨gb1001, 0, none⟩ = some (.int .i64 a0_0) := (blk_cell BK1001.out 0).trans rfl; have hcz23_1 : w22.cell? ⟨gb1001, 1, none⟩ = some (.slice A0_1 l0_1.length c0_1) := (blk_cell BK1001.out 1).trans rfl; have hfz23_0 := blk_frozen BK1001.out 0; have hfz23_1 := blk_frozen BK1001.out 1; obtain ⟨Ao24, co24, eo24⟩ := Kd.R_slice HO1006.out; subst eo24) | ((with_reducible refine gate_callee (f := 16) rfl ?_); refine goesL_ (some 42) rfl rfl Try.func16 (by kernel_rfl) rfl #[.agg #[.int .i64 a0_0, .slice A0_1 l0_1.length c0_1], .slice Ao24 t1004.length co24] rfl (by (try simp only [List.map_toArray, List.map_cons, List.map_nil]); first | done | rfl | (simp only [List.length_drop, List.length_take]; rfl)) ?_; (with_reducible refine (grow_Ring.calls a0_0 _ _ l0_1 _ _ t1004 t1008 t1011 _ ?side1 ?side2 ?side3 ?side4 A14.out).mono ?_); (case side1 => repeat (first | exact (Kd.C_below HR0_1.out HB.out) | (with_reducible refine Kd.C_alloc ?_ _) | (with_reducible refine Kd.C_drewN ?_ _) | (with_reducible refine Kd.C_drew ?_))); (case side2 => exact HC0_1.out); (case side3 => repeat (first | exact (Kd.R_reads' HO1006.out).2.2 | (with_reducible refine Kd.C_alloc ?_ _) | (with_reducible refine Kd.C_drewN ?_ _) | (with_reducible refine Kd.C_drew ?_))); (case side4 => exact (Kd.R_reads' HO1006.out).2.1); rintro e w25 ⟨v1009, rfl, ho0, hb⟩; refine ⟨_, rfl, ?_⟩; have n0_ := Aside0.mk (Kd.R_elder' (by (with_reducible repeat (first | apply Kd.R_alloc | apply Kd.R_drewN | apply Kd.R_drew)); exact HO1006.out) (Kd.R_base ho0) hb); have n1_ := Aside0.mk (Kd.R_lower (Kd.R_new' ho0 (Kd.R_lt (by (with_reducible repeat (first | apply Kd.R_alloc | apply Kd.R_drewN | apply Kd.R_drew)); exact HO1006.out))) (below_size (by repeat (first | (with_reducible first | exact HB.out | apply below_alloc | apply pw_below_drewN | apply below_drew1 | refine below_set ?_ GE1001.out) | exact HB.out)))); have n2_ := Aside0.mk (blk_below (g := gb1001) (o := .cells #[.int .i64 a0_0, .slice A0_1 l0_1.length c0_1] 24 (0, 0)) (by (with_reducible repeat (first | refine blk_drewN ?_ _ | refine blk_drew ?_ | refine blk_alloc ?_ _)); exact BK1001.out) hb); have n3_ := Aside0.mk (below_step (by repeat (first | (with_reducible first | exact HB.out | apply below_alloc | apply pw_below_drewN | apply below_drew1 | refine below_set ?_ GE1001.out) | exact HB.out)) hb); clear HO1006; clear BK1001; clear HB; have HO1006 := n0_; have HO1010 := n1_; have BK1001 := n2_; have HB := n3_; clear n0_ n1_ n2_ n3_; (try clear hb); (try clear hb2); (try clear hk); (try clear hi); (try clear ho0)))
            have n0_ := Aside0.mk (Kd.R_drew HO1006.out)
            have n1_ := Aside0.mk (Kd.R_drew HO1010.out)
            have n2_ := Aside0.mk (blk_drew BK1001.out)
            have n3_ := Aside0.mk (below_drew1 HB.out)
            clear HO1006
            clear HO1010
            clear BK1001
            clear HB
            have HO1006 := n0_
            have HO1010 := n1_
            have BK1001 := n2_
            have HB := n3_
            clear n0_ n1_ n2_ n3_
            refine start_ (n := 8) (S := fun w' => w'.cell? ⟨gb1001, 0, none⟩ = some (.int .i64 a0_0) ∧ w'.cell? ⟨gb1001, 1, none⟩ = some (.slice A0_1 l0_1.length c0_1)) (ds := []) #[false, false, false, false, false, false, false, false] (by kernel_rfl) rfl rfl ⟨(blk_cell BK1001.out 0).trans rfl, (blk_cell BK1001.out 1).trans rfl⟩ (fun hHeld => ?_); refine with_tabW flyoverlaw07_GrowRing.tab9 flyoverlaw07_GrowRing.bits9 (fun HT_ HW_ => ?_)
            generalize w25.drew = w26 at HO1006 HO1010 BK1001 HB hHeld ⊢
            refine pure_ (i := 0) (N := some 45) (v := ?_) (a' := ?_) #[true, false, false, false, false, false, false, false] rfl rfl (any_of HT_.out (by kernel_rfl)) (fun _ _ _ h => h) (Or.inl ⟨by rfl, ?_⟩) ?_ ?_
            rotate_left
            · intro w'
              go_simp
              with_reducible rfl
            rotate_left
            · simp only [Act.put, List.setIfInBounds_toArray, List.set_cons_zero, List.set_cons_succ, i64_w, i32_w]
              rfl
            refine pure_ (i := 3) (N := some 48) (v := ?_) (a' := ?_) #[true, false, false, true, false, false, false, false] rfl rfl (any_of HT_.out (by kernel_rfl)) (fun _ _ _ h => h) (Or.inl ⟨by rfl, ?_⟩) ?_ ?_
            rotate_left
            · intro w'
              go_simp
              with_reducible rfl
            rotate_left
            · simp only [Act.put, List.setIfInBounds_toArray, List.set_cons_zero, List.set_cons_succ, i64_w, i32_w]
              rfl
            refine take_ (i := 1) (N := some 46) (v := ?_) (a' := ?_) #[true, true, false, true, false, false, false, false] rfl rfl (take_ofW HT_.out HW_.out (by kernel_rfl)) (fun _ _ _ h => h) (Or.inl ⟨by rfl, ?_⟩) hHeld ?_ ?_
            rotate_left
            · rintro w' ⟨s0, s1⟩
              go_simp
              with_reducible rfl
            rotate_left
            · simp only [Act.put, List.setIfInBounds_toArray, List.set_cons_zero, List.set_cons_succ, i64_w, i32_w]
              rfl
            refine take_ (i := 4) (N := some 49) (v := ?_) (a' := ?_) #[true, true, false, true, true, false, false, false] rfl rfl (take_ofW HT_.out HW_.out (by kernel_rfl)) (fun _ _ _ h => h) (Or.inl ⟨by rfl, ?_⟩) hHeld ?_ ?_
            rotate_left
            · rintro w' ⟨s0, s1⟩
              go_simp
              with_reducible rfl
            rotate_left
            · simp only [Act.put, List.setIfInBounds_toArray, List.set_cons_zero, List.set_cons_succ, i64_w, i32_w]
              rfl
            refine join_ (σ := Value × Value) 1 #[true, true, true, true, true, true, true, false] (fun s_ => [(47, s_.1), (50, s_.2), (11, s_.1)]) (fun s_ w' => (w'.cell? ⟨gb1001, 0, none⟩ = some (.int .i64 a0_0) ∧ w'.cell? ⟨gb1001, 1, none⟩ = some (.slice A0_1 l0_1.length c0_1)) ∧ (Kd.R (Kd.int .i64) 3 w' w.heap.size (fun k_ => some k_ ≠ (v1009 : Value).ownBlock) (.slice Ao24 t1004.length co24) t1004) ∧ (Kd.R (Kd.int .i64) 3 w' w.heap.size (fun k_ => some k_ ≠ (.slice Ao24 t1004.length co24 : Value).ownBlock) v1009 t1008) ∧ (Kd.R Kd.bool 4 w' w.heap.size (fun k_ => some k_ ≠ (s_.2 : Value).ownBlock) s_.1 y1012) ∧ (Kd.R Kd.bool 4 w' w.heap.size (fun k_ => some k_ ≠ (s_.1 : Value).ownBlock) s_.2 y1015) ∧ (w'.heap[gb1001]? = some (.cells #[.int .i64 a0_0, .slice A0_1 l0_1.length c0_1] 24 (0, 0))) ∧ (Below w.heap.size w w')) ?_ ?_
            rotate_left
            · intro hCont
              refine two_ (i := 2) (j := 5) (Ni := some 47) (Nj := some 50) #[true, true, true, true, true, false, false, false] #[true, true, false, true, true, true, false, false] rfl rfl rfl rfl (two_of HT_.out (by kernel_rfl)) (by decide) (by decide) (fun K hK => ?_) (fun K hK => ?_)
              · skip
                refine Kd.R_make_step Kd.bool _ 4 (by rfl) (N := 47) rfl 37 _ _ rfl a0_0 rfl rfl Try.underlying37 (.bool false) 1 info4 rfl (by decide) (by omega) false (ok := fun _ => True) (okp := fun _ => True) rfl (fun _ hk => hk) trivial (of_decide_eq_true (by first | (with_reducible assumption) | assumption)) (Nat.le_trans (Nat.mul_le_mul_right _ (of_decide_eq_true (by first | (with_reducible assumption) | assumption) : a0_0.toNat ≤ 281474976710656)) (by omega)) (Below.refl _ _) (Nat.le_refl _) ?_
                intro v1013 w27 ho28 hb hg_ hnew_
                clear hg_ hnew_
                (first | rw [← Ny1012.out] at ho28 | (simp only [Int.reduceToNat] at ho28; rw [← Ny1012.out] at ho28))
                have n0_ := Aside0.mk (Kd.R_below (by (with_reducible repeat (first | apply Kd.R_alloc | apply Kd.R_drewN | apply Kd.R_drew)); exact HO1006.out) hb)
                have n1_ := Aside0.mk (Kd.R_below (by (with_reducible repeat (first | apply Kd.R_alloc | apply Kd.R_drewN | apply Kd.R_drew)); exact HO1010.out) hb)
                have n2_ := Aside0.mk (Kd.R_lower ho28 (below_size (by repeat (first | (with_reducible first | exact HB.out | apply below_alloc | apply pw_below_drewN | apply below_drew1 | refine below_set ?_ GE1001.out) | exact HB.out))))
                have n3_ := Aside0.mk (blk_below (g := gb1001) (o := .cells #[.int .i64 a0_0, .slice A0_1 l0_1.length c0_1] 24 (0, 0)) (by (with_reducible repeat (first | refine blk_drewN ?_ _ | refine blk_drew ?_ | refine blk_alloc ?_ _)); exact BK1001.out) hb)
                have n4_ := Aside0.mk (below_step (by repeat (first | (with_reducible first | exact HB.out | apply below_alloc | apply pw_below_drewN | apply below_drew1 | refine below_set ?_ GE1001.out) | exact HB.out)) hb)
                clear HO1006
                clear HO1010
                clear BK1001
                clear HB
                have HO1006 := n0_
                have HO1010 := n1_
                have HO1014 := n2_
                have BK1001 := n3_
                have HB := n4_
                clear n0_ n1_ n2_ n3_ n4_
                clear hb ho28
                refine hK.out _ _ ⟨(blk_cell BK1001.out 0).trans rfl, (blk_cell BK1001.out 1).trans rfl⟩ (fun hHeld => ?_)
                clear hK K
                refine norm_ (a' := ?_) ?_ ?_
                rotate_left
                · show Act.put _ (some 47) _ = _
                  simp only [Act.put, List.setIfInBounds_toArray, List.set_cons_zero, List.set_cons_succ, i64_w, i32_w]
                  rfl
                refine pure_ (i := 6) (N := some 11) (v := ?_) (a' := ?_) #[true, true, true, true, true, false, true, false] rfl rfl (any_of HT_.out (by kernel_rfl)) (fun _ _ _ h => h) (Or.inl ⟨by rfl, ?_⟩) ?_ ?_
                rotate_left
                · intro w'
                  go_simp
                  with_reducible rfl
                rotate_left
                · simp only [Act.put, List.setIfInBounds_toArray, List.set_cons_zero, List.set_cons_succ, i64_w, i32_w]
                  rfl
                refine one_ (i := 5) (N := some 50) #[true, true, true, true, true, true, true, false] rfl rfl (one_of HT_.out (by kernel_rfl)) (by decide) (fun K hK => ?_)
                refine Kd.R_make_step Kd.bool _ 4 (by rfl) (N := 50) rfl 37 _ _ rfl a0_0 rfl rfl Try.underlying37 (.bool false) 1 info4 rfl (by decide) (by omega) false (ok := fun _ => True) (okp := fun _ => True) rfl (fun _ hk => hk) trivial (of_decide_eq_true (by first | (with_reducible assumption) | assumption)) (Nat.le_trans (Nat.mul_le_mul_right _ (of_decide_eq_true (by first | (with_reducible assumption) | assumption) : a0_0.toNat ≤ 281474976710656)) (by omega)) (Below.refl _ _) (Nat.le_refl _) ?_
                intro v1016 w29 ho30 hb hg_ hnew_
                clear hg_ hnew_
                (first | rw [← Ny1015.out] at ho30 | (simp only [Int.reduceToNat] at ho30; rw [← Ny1015.out] at ho30))
                have n0_ := Aside0.mk (Kd.R_below (by (with_reducible repeat (first | apply Kd.R_alloc | apply Kd.R_drewN | apply Kd.R_drew)); exact HO1006.out) hb)
                have n1_ := Aside0.mk (Kd.R_below (by (with_reducible repeat (first | apply Kd.R_alloc | apply Kd.R_drewN | apply Kd.R_drew)); exact HO1010.out) hb)
                have n2_ := Aside0.mk (Kd.R_elder' (by (with_reducible repeat (first | apply Kd.R_alloc | apply Kd.R_drewN | apply Kd.R_drew)); exact HO1014.out) (Kd.R_base ho30) hb)
                have n3_ := Aside0.mk (Kd.R_lower (Kd.R_new' ho30 (Kd.R_lt (by (with_reducible repeat (first | apply Kd.R_alloc | apply Kd.R_drewN | apply Kd.R_drew)); exact HO1014.out))) (below_size (by repeat (first | (with_reducible first | exact HB.out | apply below_alloc | apply pw_below_drewN | apply below_drew1 | refine below_set ?_ GE1001.out) | exact HB.out))))
                have n4_ := Aside0.mk (blk_below (g := gb1001) (o := .cells #[.int .i64 a0_0, .slice A0_1 l0_1.length c0_1] 24 (0, 0)) (by (with_reducible repeat (first | refine blk_drewN ?_ _ | refine blk_drew ?_ | refine blk_alloc ?_ _)); exact BK1001.out) hb)
                have n5_ := Aside0.mk (below_step (by repeat (first | (with_reducible first | exact HB.out | apply below_alloc | apply pw_below_drewN | apply below_drew1 | refine below_set ?_ GE1001.out) | exact HB.out)) hb)
                clear HO1006
                clear HO1010
                clear HO1014
                clear BK1001
                clear HB
                have HO1006 := n0_
                have HO1010 := n1_
                have HO1014 := n2_
                have HO1017 := n3_
                have BK1001 := n4_
                have HB := n5_
                clear n0_ n1_ n2_ n3_ n4_ n5_
                clear hb ho30
                refine hK.out _ _ ⟨(blk_cell BK1001.out 0).trans rfl, (blk_cell BK1001.out 1).trans rfl⟩ (fun hHeld => ?_)
                clear hK K
                refine norm_ (a' := ?_) ?_ ?_
                rotate_left
                · show Act.put _ (some 50) _ = _
                  simp only [Act.put, List.setIfInBounds_toArray, List.set_cons_zero, List.set_cons_succ, i64_w, i32_w]
                  rfl
                exact norm_ (by simp only [putAll, Act.put, List.setIfInBounds_toArray, List.set_cons_zero, List.set_cons_succ]) (hCont (v1013, v1016) _ ⟨hHeld, (by (with_reducible repeat (first | apply Kd.R_alloc | apply Kd.R_drewN | apply Kd.R_drew)); exact Kd.R_mono HO1006.out (fun _ hk => hk.2)), (by (with_reducible repeat (first | apply Kd.R_alloc | apply Kd.R_drewN | apply Kd.R_drew)); exact Kd.R_mono HO1010.out (fun _ hk => hk.2)), (by (with_reducible repeat (first | apply Kd.R_alloc | apply Kd.R_drewN | apply Kd.R_drew)); exact Kd.R_mono HO1014.out (fun _ hk => hk.2)), (by (with_reducible repeat (first | apply Kd.R_alloc | apply Kd.R_drewN | apply Kd.R_drew)); exact Kd.R_mono HO1017.out (fun _ hk => hk.2)), (by (with_reducible repeat (first | refine blk_drewN ?_ _ | refine blk_drew ?_ | refine blk_alloc ?_ _)); exact BK1001.out), (by repeat (first | (with_reducible first | exact HB.out | apply below_alloc | apply pw_below_drewN | apply below_drew1 | refine below_set ?_ GE1001.out) | exact HB.out))⟩)
              · skip
                refine Kd.R_make_step Kd.bool _ 4 (by rfl) (N := 50) rfl 37 _ _ rfl a0_0 rfl rfl Try.underlying37 (.bool false) 1 info4 rfl (by decide) (by omega) false (ok := fun _ => True) (okp := fun _ => True) rfl (fun _ hk => hk) trivial (of_decide_eq_true (by first | (with_reducible assumption) | assumption)) (Nat.le_trans (Nat.mul_le_mul_right _ (of_decide_eq_true (by first | (with_reducible assumption) | assumption) : a0_0.toNat ≤ 281474976710656)) (by omega)) (Below.refl _ _) (Nat.le_refl _) ?_
                intro v1016 w27 ho28 hb hg_ hnew_
                clear hg_ hnew_
                (first | rw [← Ny1015.out] at ho28 | (simp only [Int.reduceToNat] at ho28; rw [← Ny1015.out] at ho28))
                have n0_ := Aside0.mk (Kd.R_below (by (with_reducible repeat (first | apply Kd.R_alloc | apply Kd.R_drewN | apply Kd.R_drew)); exact HO1006.out) hb)
                have n1_ := Aside0.mk (Kd.R_below (by (with_reducible repeat (first | apply Kd.R_alloc | apply Kd.R_drewN | apply Kd.R_drew)); exact HO1010.out) hb)
                have n2_ := Aside0.mk (Kd.R_lower ho28 (below_size (by repeat (first | (with_reducible first | exact HB.out | apply below_alloc | apply pw_below_drewN | apply below_drew1 | refine below_set ?_ GE1001.out) | exact HB.out))))
                have n3_ := Aside0.mk (blk_below (g := gb1001) (o := .cells #[.int .i64 a0_0, .slice A0_1 l0_1.length c0_1] 24 (0, 0)) (by (with_reducible repeat (first | refine blk_drewN ?_ _ | refine blk_drew ?_ | refine blk_alloc ?_ _)); exact BK1001.out) hb)
                have n4_ := Aside0.mk (below_step (by repeat (first | (with_reducible first | exact HB.out | apply below_alloc | apply pw_below_drewN | apply below_drew1 | refine below_set ?_ GE1001.out) | exact HB.out)) hb)
                clear HO1006
                clear HO1010
                clear BK1001
                clear HB
                have HO1006 := n0_
                have HO1010 := n1_
                have HO1017 := n2_
                have BK1001 := n3_
                have HB := n4_
                clear n0_ n1_ n2_ n3_ n4_
                clear hb ho28
                refine hK.out _ _ ⟨(blk_cell BK1001.out 0).trans rfl, (blk_cell BK1001.out 1).trans rfl⟩ (fun hHeld => ?_)
                clear hK K
                refine norm_ (a' := ?_) ?_ ?_
                rotate_left
                · show Act.put _ (some 50) _ = _
                  simp only [Act.put, List.setIfInBounds_toArray, List.set_cons_zero, List.set_cons_succ, i64_w, i32_w]
                  rfl
                refine one_ (i := 2) (N := some 47) #[true, true, true, true, true, true, false, false] rfl rfl (one_of HT_.out (by kernel_rfl)) (by decide) (fun K hK => ?_)
                refine Kd.R_make_step Kd.bool _ 4 (by rfl) (N := 47) rfl 37 _ _ rfl a0_0 rfl rfl Try.underlying37 (.bool false) 1 info4 rfl (by decide) (by omega) false (ok := fun _ => True) (okp := fun _ => True) rfl (fun _ hk => hk) trivial (of_decide_eq_true (by first | (with_reducible assumption) | assumption)) (Nat.le_trans (Nat.mul_le_mul_right _ (of_decide_eq_true (by first | (with_reducible assumption) | assumption) : a0_0.toNat ≤ 281474976710656)) (by omega)) (Below.refl _ _) (Nat.le_refl _) ?_
                intro v1013 w29 ho30 hb hg_ hnew_
                clear hg_ hnew_
                (first | rw [← Ny1012.out] at ho30 | (simp only [Int.reduceToNat] at ho30; rw [← Ny1012.out] at ho30))
                have n0_ := Aside0.mk (Kd.R_below (by (with_reducible repeat (first | apply Kd.R_alloc | apply Kd.R_drewN | apply Kd.R_drew)); exact HO1006.out) hb)
                have n1_ := Aside0.mk (Kd.R_below (by (with_reducible repeat (first | apply Kd.R_alloc | apply Kd.R_drewN | apply Kd.R_drew)); exact HO1010.out) hb)
                have n2_ := Aside0.mk (Kd.R_elder' (by (with_reducible repeat (first | apply Kd.R_alloc | apply Kd.R_drewN | apply Kd.R_drew)); exact HO1017.out) (Kd.R_base ho30) hb)
                have n3_ := Aside0.mk (Kd.R_lower (Kd.R_new' ho30 (Kd.R_lt (by (with_reducible repeat (first | apply Kd.R_alloc | apply Kd.R_drewN | apply Kd.R_drew)); exact HO1017.out))) (below_size (by repeat (first | (with_reducible first | exact HB.out | apply below_alloc | apply pw_below_drewN | apply below_drew1 | refine below_set ?_ GE1001.out) | exact HB.out))))
                have n4_ := Aside0.mk (blk_below (g := gb1001) (o := .cells #[.int .i64 a0_0, .slice A0_1 l0_1.length c0_1] 24 (0, 0)) (by (with_reducible repeat (first | refine blk_drewN ?_ _ | refine blk_drew ?_ | refine blk_alloc ?_ _)); exact BK1001.out) hb)
                have n5_ := Aside0.mk (below_step (by repeat (first | (with_reducible first | exact HB.out | apply below_alloc | apply pw_below_drewN | apply below_drew1 | refine below_set ?_ GE1001.out) | exact HB.out)) hb)
                clear HO1006
                clear HO1010
                clear HO1017
                clear BK1001
                clear HB
                have HO1006 := n0_
                have HO1010 := n1_
                have HO1017 := n2_
                have HO1014 := n3_
                have BK1001 := n4_
                have HB := n5_
                clear n0_ n1_ n2_ n3_ n4_ n5_
                clear hb ho30
                refine hK.out _ _ ⟨(blk_cell BK1001.out 0).trans rfl, (blk_cell BK1001.out 1).trans rfl⟩ (fun hHeld => ?_)
                clear hK K
                refine norm_ (a' := ?_) ?_ ?_
                rotate_left
                · show Act.put _ (some 47) _ = _
                  simp only [Act.put, List.setIfInBounds_toArray, List.set_cons_zero, List.set_cons_succ, i64_w, i32_w]
                  rfl
                refine pure_ (i := 6) (N := some 11) (v := ?_) (a' := ?_) #[true, true, true, true, true, true, true, false] rfl rfl (any_of HT_.out (by kernel_rfl)) (fun _ _ _ h => h) (Or.inl ⟨by rfl, ?_⟩) ?_ ?_
                rotate_left
                · intro w'
                  go_simp
                  with_reducible rfl
                rotate_left
                · simp only [Act.put, List.setIfInBounds_toArray, List.set_cons_zero, List.set_cons_succ, i64_w, i32_w]
                  rfl
                exact norm_ (by simp only [putAll, Act.put, List.setIfInBounds_toArray, List.set_cons_zero, List.set_cons_succ]) (hCont (v1013, v1016) _ ⟨hHeld, (by (with_reducible repeat (first | apply Kd.R_alloc | apply Kd.R_drewN | apply Kd.R_drew)); exact Kd.R_mono HO1006.out (fun _ hk => hk.2)), (by (with_reducible repeat (first | apply Kd.R_alloc | apply Kd.R_drewN | apply Kd.R_drew)); exact Kd.R_mono HO1010.out (fun _ hk => hk.2)), (by (with_reducible repeat (first | apply Kd.R_alloc | apply Kd.R_drewN | apply Kd.R_drew)); exact Kd.R_mono HO1014.out (fun _ hk => hk.2)), (by (with_reducible repeat (first | apply Kd.R_alloc | apply Kd.R_drewN | apply Kd.R_drew)); exact Kd.R_mono HO1017.out (fun _ hk => hk.2)), (by (with_reducible repeat (first | refine blk_drewN ?_ _ | refine blk_drew ?_ | refine blk_alloc ?_ _)); exact BK1001.out), (by repeat (first | (with_reducible first | exact HB.out | apply below_alloc | apply pw_below_drewN | apply below_drew1 | refine below_set ?_ GE1001.out) | exact HB.out))⟩)
            rintro ⟨v1013, v1016⟩ w31 ⟨hS_, h0_, h1_, h2_, h3_, h4_, h5_⟩
            have n0_ : Aside0 (Kd.R (Kd.int .i64) 3 w31 w.heap.size (fun k_ => some k_ ≠ (v1009 : Value).ownBlock) (.slice Ao24 t1004.length co24) t1004) := ⟨h0_⟩
            have n1_ : Aside0 (Kd.R (Kd.int .i64) 3 w31 w.heap.size (fun k_ => some k_ ≠ (.slice Ao24 t1004.length co24 : Value).ownBlock) v1009 t1008) := ⟨h1_⟩
            have n2_ : Aside0 (Kd.R Kd.bool 4 w31 w.heap.size (fun k_ => some k_ ≠ (v1016 : Value).ownBlock) v1013 y1012) := ⟨h2_⟩
            have n3_ : Aside0 (Kd.R Kd.bool 4 w31 w.heap.size (fun k_ => some k_ ≠ (v1013 : Value).ownBlock) v1016 y1015) := ⟨h3_⟩
            have n4_ : Aside0 (w31.heap[gb1001]? = some (.cells #[.int .i64 a0_0, .slice A0_1 l0_1.length c0_1] 24 (0, 0))) := ⟨h4_⟩
            have n5_ : Aside0 (Below w.heap.size w w31) := ⟨h5_⟩
            clear HO1006
            clear HO1010
            clear BK1001
            clear HB
            clear h0_ h1_ h2_ h3_ h4_ h5_
            have HO1006 := n0_
            have HO1010 := n1_
            have HO1014 := n2_
            have HO1017 := n3_
            have BK1001 := n4_
            have HB := n5_
            clear n0_ n1_ n2_ n3_ n4_ n5_
            have hHeld : w31.cell? ⟨gb1001, 0, none⟩ = some (.int .i64 a0_0) ∧ w31.cell? ⟨gb1001, 1, none⟩ = some (.slice A0_1 l0_1.length c0_1) := hS_
            refine norm_ (a' := ?_) ?_ ?_
            rotate_left
            · simp only [putAll, Act.put, List.setIfInBounds_toArray, List.set_cons_zero, List.set_cons_succ]
              rfl
            refine pure_ (i := 7) (N := some 12) (v := ?_) (a' := ?_) #[true, true, true, true, true, true, true, true] rfl rfl (any_of HT_.out (by kernel_rfl)) (fun _ _ _ h => h) (Or.inl ⟨by rfl, ?_⟩) ?_ ?_
            rotate_left
            · intro w'
              go_simp
              with_reducible rfl
            rotate_left
            · simp only [Act.put, List.setIfInBounds_toArray, List.set_cons_zero, List.set_cons_succ, i64_w, i32_w]
              rfl
            refine done_ (done_of HT_.out (by kernel_rfl)) ?_
            try go_wp2
            go_loopg [53] k (fun kq v53 w' => ∃ (x11_1 : List Bool) (x53_1 : Int), v53 = .int .i64 x53_1 ∧ Aside0 (flyoverlaw07_GrowRing.l0 kq t1008 t1011 x11_1 y1015 t1004 (t1004.length : Int) x53_1 a0_0 l0_1 = some r) ∧ Aside0 (kq ≤ k) ∧ Aside0 (Kd.R (Kd.int .i64) 3 w' w.heap.size (fun k_ => some k_ ≠ ((.slice Ao24 t1004.length co24) : Value).ownBlock) v1009 t1008) ∧ Aside0 (Kd.R Kd.bool 4 w' w.heap.size (fun k_ => some k_ ≠ (v1016 : Value).ownBlock) v1013 x11_1) ∧ Aside0 (Kd.R Kd.bool 4 w' w.heap.size (fun k_ => some k_ ≠ (v1013 : Value).ownBlock) v1016 y1015) ∧ Aside0 (Kd.R (Kd.int .i64) 3 w' w.heap.size (fun k_ => some k_ ≠ (v1009 : Value).ownBlock) (.slice Ao24 t1004.length co24) t1004) ∧ Aside0 (w'.heap[gb1001]? = some (.cells #[.int .i64 a0_0, (.slice A0_1 l0_1.length c0_1)] 24 (0, 0))) ∧ Aside0 (Below w.heap.size w w'))
            case atStart => exact ⟨(y1012), (0), (by first | rfl | (simp; done) | (simp [*]; done)), H', ⟨Nat.le_refl _⟩, ⟨by (with_reducible repeat (first | apply Kd.R_alloc | apply Kd.R_drewN | apply Kd.R_drew)); exact HO1010.out⟩, ⟨by (with_reducible repeat (first | apply Kd.R_alloc | apply Kd.R_drewN | apply Kd.R_drew)); exact HO1014.out⟩, ⟨by (with_reducible repeat (first | apply Kd.R_alloc | apply Kd.R_drewN | apply Kd.R_drew)); exact HO1017.out⟩, ⟨by (with_reducible repeat (first | apply Kd.R_alloc | apply Kd.R_drewN | apply Kd.R_drew)); exact HO1006.out⟩, ⟨by (with_reducible repeat (first | refine blk_drewN ?_ _ | refine blk_drew ?_ | refine blk_alloc ?_ _)); exact BK1001.out⟩, ⟨by repeat (first | (with_reducible first | exact HB.out | apply below_alloc | apply pw_below_drewN | apply below_drew1 | refine below_set ?_ GE1001.out) | exact HB.out)⟩⟩
            case round =>
              clear H'
              try clear c1
              try clear p2
              try clear c4
              try clear c5
              try clear c6
              try clear c7
              try clear c9
              try clear c13
              try clear c13b0
              try clear c13b1
              try clear c15
              try clear c15b0
              try clear c15b1
              try clear c16
              try clear c16b0
              try clear c16b1
              try clear hcz10_0
              try clear hcz10_1
              try clear hcz19_0
              try clear hcz19_1
              try clear hcz21_0
              try clear hcz21_1
              try clear hcz23_0
              try clear hcz23_1
              try clear hfz10_0
              try clear hfz10_1
              try clear hfz19_0
              try clear hfz19_1
              try clear hfz21_0
              try clear hfz21_1
              try clear hfz23_0
              try clear hfz23_1
              obtain ⟨x11_1, x53_1, rfl, HA, HK1, HO_9, HO_11, HO_12, HO_51, BK1001, HB⟩ := hrel
              cases gk with
              | zero => exact absurd HA.out (by simp [flyoverlaw07_GrowRing.l0])
              | succ k1 =>
                have H := HA.out
                clear HA
                simp only [flyoverlaw07_GrowRing.l0] at H
                by_cases c32 : x53_1 < (t1004.length : Int)
                · rw [if_pos c32] at H
                  have c32b0 : decide (x53_1 < (t1004.length : Int)) = true := decide_eq_true c32
                  clear c32
                  by_cases c33 : 0 ≤ x53_1
                  · rw [if_pos c33] at H
                    have c33b0 : decide (0 ≤ x53_1) = true := decide_eq_true c33
                    clear c33
                    by_cases c34 : x53_1 < (t1004.length : Int)
                    · rw [if_pos c34] at H
                      have c34b0 : decide (x53_1 < (t1004.length : Int)) = true := decide_eq_true c34
                      clear c34
                      by_cases c35 : 0 ≤ (rd t1004 x53_1)
                      · rw [if_pos c35] at H
                        have c35b0 : decide (0 ≤ (rd t1004 x53_1)) = true := decide_eq_true c35
                        clear c35
                        by_cases c36 : (rd t1004 x53_1) < (x11_1.length : Int)
                        · rw [if_pos c36] at H
                          have c36b0 : decide ((rd t1004 x53_1) < (x11_1.length : Int)) = true := decide_eq_true c36
                          clear c36
                          obtain ⟨y1019, hy1019⟩ : ∃ y_ : List Bool, y_ = (x11_1.set ((rd t1004 x53_1) : Int).toNat true) := ⟨_, rfl⟩
                          replace H : (flyoverlaw07_GrowRing.l0 k1 t1008 t1011 y1019 y1015 t1004 (t1004.length : Int) (wrap64 (x53_1 + 1)) a0_0 l0_1) = some r := by first | (rw [hy1019]; with_reducible exact H) | (have H2_ := (Option.bind_some _ _).symm.trans H; rw [hy1019]; with_reducible exact H2_) | (have H2_ := (Option.bind_some _ _).symm.trans H; with_reducible exact H2_) | with_reducible exact H | (rw [hy1019]; exact H) | exact H
                          have Ny1019 := Aside0.mk hy1019
                          clear hy1019
                          have H' := Aside0.mk H
                          clear H
                          have p1018 : 0 ≤ (x53_1 : Int) := of_decide_eq_true (by first | (with_reducible assumption) | assumption)
                          have q1018 : x53_1 < (t1004.length : Int) := of_decide_eq_true (by first | (with_reducible assumption) | assumption)
                          obtain ⟨ad1018, e1018, hx1018_0⟩ := Kd.at_int (Kd.R_reads' HO_51.out).2.2 x53_1 p1018 q1018
                          cases e1018
                          replace p1018 := eq_true p1018
                          replace q1018 := eq_true q1018
                          have p37 : 0 ≤ ((rd t1004 x53_1) : Int) := of_decide_eq_true (by first | (with_reducible assumption) | assumption)
                          have q37 : ((rd t1004 x53_1) : Int) < ((x11_1.length : Int) : Int) := of_decide_eq_true (by first | (with_reducible assumption) | assumption)
                          obtain ⟨go37, co37, eo37, gb37, gl37, cl37, HG37⟩ := Kd.R_form HO_11.out (by omega)
                          (first | cases eo37 | (injection eo37 with ea_ en_ ec_; (first | subst ea_ | (injection ea_ with ea_; subst ea_)); subst ec_; clear en_))
                          have GB37 := Aside0.mk gb37
                          have GG37 := Aside0.mk HG37
                          clear gb37 gl37 HG37
                          obtain ⟨hx37_0, hf37_0⟩ := Kd.R_celln false HO_11.out ((rd t1004 x53_1) : Int) p37 q37
                          replace p37 := eq_true p37
                          replace q37 := eq_true q37
                          have HP38 := Kd.R_putg HO_11.out ((rd t1004 x53_1) : Int) true
                          go_wp2_with (first | ((with_reducible refine gate_store (t := 4) (p := 59) rfl ?_); refine store_event (t := 4) (p := 59) (v := ?vo_w39) (w1 := (wr.setCell ⟨go37, ((rd t1004 x53_1) : Int).toNat, none⟩ (.bool true))) ?hg ?ho ?hn ?hr ?_; (case ho => rfl); (case hg => rfl); (case hn => rfl); (case hr => first | (go_simp; done) | (go_simp; rfl)); intro w39 hw; have hg : wr.grownBy w39 (some go37) := (by rw [hw]; exact HP38.2); have hp_ : Kd.R Kd.bool 4 w39 w.heap.size (fun k_ => some k_ ≠ (v1016 : Value).ownBlock) (.slice (some ⟨go37, 0, none⟩) x11_1.length co37) y1019 := (by rw [hw, Ny1019.out]; exact HP38.1); clear HP38; have n0_ := Aside0.mk (Kd.R_over' (v := (.slice (some ⟨go37, 0, none⟩) x11_1.length co37)) (by (with_reducible repeat (first | apply Kd.R_alloc | apply Kd.R_drewN | apply Kd.R_drew)); exact HO_9.out) (Kd.R_typed HO_11.out) (by decide) hg); have n1_ := Aside0.mk (hp_); have n2_ := Aside0.mk (Kd.R_after (v := (.slice (some ⟨go37, 0, none⟩) x11_1.length co37)) (v1 := (.slice (some ⟨go37, 0, none⟩) x11_1.length co37)) (ok := (fun _ => True)) (by (with_reducible repeat (first | apply Kd.R_alloc | apply Kd.R_drewN | apply Kd.R_drew)); exact Kd.R_mono HO_12.out (fun _ hk => ⟨trivial, hk⟩)) hg (.inl rfl)); have n3_ := Aside0.mk (Kd.R_over' (v := (.slice (some ⟨go37, 0, none⟩) x11_1.length co37)) (by (with_reducible repeat (first | apply Kd.R_alloc | apply Kd.R_drewN | apply Kd.R_drew)); exact HO_51.out) (Kd.R_typed HO_11.out) (by decide) hg); have n4_ := Aside0.mk (blk_grown (g := gb1001) (o := .cells #[.int .i64 a0_0, .slice A0_1 l0_1.length c0_1] 24 (0, 0)) (by (with_reducible repeat (first | refine blk_drewN ?_ _ | refine blk_drew ?_ | refine blk_alloc ?_ _)); exact BK1001.out) hg (Kd.R_ne HO_11.out BK1001.out (by decide))); have n5_ := Aside0.mk ((by rw [hw]; exact below_set (HB.out) GB37.out : Below w.heap.size w w39)); clear HO_9; clear HO_11; clear HO_12; clear HO_51; clear BK1001; clear HB; have HO_9 := n0_; have HO_11 := n1_; have HO_12 := n2_; have HO_51 := n3_; have BK1001 := n4_; have HB := n5_; clear n0_ n1_ n2_ n3_ n4_ n5_; clear hg hw hp_))
                          go_roundg k1
                          case measure => have := HK1.out; omega
                          case rel => exact ⟨(y1019), (wrap64 (x53_1 + 1)), (by first | rfl | (simp; done) | (simp [*]; done)), H', ⟨by have := HK1.out; omega⟩, ⟨by (with_reducible repeat (first | apply Kd.R_alloc | apply Kd.R_drewN | apply Kd.R_drew)); exact HO_9.out⟩, ⟨by (with_reducible repeat (first | apply Kd.R_alloc | apply Kd.R_drewN | apply Kd.R_drew)); exact HO_11.out⟩, ⟨by (with_reducible repeat (first | apply Kd.R_alloc | apply Kd.R_drewN | apply Kd.R_drew)); exact Kd.R_mono HO_12.out (fun _ hk => hk.2)⟩, ⟨by (with_reducible repeat (first | apply Kd.R_alloc | apply Kd.R_drewN | apply Kd.R_drew)); exact HO_51.out⟩, ⟨by (with_reducible repeat (first | refine blk_drewN ?_ _ | refine blk_drew ?_ | refine blk_alloc ?_ _)); exact BK1001.out⟩, ⟨by repeat (first | (with_reducible first | exact HB.out | apply below_alloc | apply pw_below_drewN | apply below_drew1 | refine below_set ?_ GE1001.out) | exact HB.out)⟩⟩
                        · rw [if_neg c36] at H
                          exact absurd H (by simp)
                      · rw [if_neg c35] at H
                        exact absurd H (by simp)
                    · rw [if_neg c34] at H
                      exact absurd H (by simp)
                  · rw [if_neg c33] at H
                    exact absurd H (by simp)
                · rw [if_neg c32] at H
                  have c32b0 : decide (x53_1 < (t1004.length : Int)) = false := decide_eq_false c32
                  clear c32
                  have H' := Aside0.mk H
                  clear H
                  obtain ⟨Ao40, co40, eo40⟩ := Kd.R_slice HO_9.out
                  subst eo40
                  go_wp2
                  go_loopg [63] k1 (fun kq v63 w' => ∃ (x12_2 : List Bool) (x63_2 : Int), v63 = .int .i64 x63_2 ∧ Aside0 (flyoverlaw07_GrowRing.l1 kq t1011 x11_1 x12_2 t1008 (t1008.length : Int) x63_2 a0_0 l0_1 = some r) ∧ Aside0 (kq ≤ k1) ∧ Aside0 (Kd.R Kd.bool 4 w' w.heap.size (fun k_ => some k_ ≠ (v1016 : Value).ownBlock) v1013 x11_1) ∧ Aside0 (Kd.R Kd.bool 4 w' w.heap.size (fun k_ => some k_ ≠ (v1013 : Value).ownBlock) v1016 x12_2) ∧ Aside0 (Kd.R (Kd.int .i64) 3 w' w.heap.size (fun _ => True) (.slice Ao40 t1008.length co40) t1008) ∧ Aside0 (w'.heap[gb1001]? = some (.cells #[.int .i64 a0_0, (.slice A0_1 l0_1.length c0_1)] 24 (0, 0))) ∧ Aside0 (Below w.heap.size w w'))
                  case atStart => exact ⟨(y1015), (0), (by first | rfl | (simp; done) | (simp [*]; done)), H', ⟨Nat.le_refl _⟩, ⟨by (with_reducible repeat (first | apply Kd.R_alloc | apply Kd.R_drewN | apply Kd.R_drew)); exact HO_11.out⟩, ⟨by (with_reducible repeat (first | apply Kd.R_alloc | apply Kd.R_drewN | apply Kd.R_drew)); exact HO_12.out⟩, ⟨by (with_reducible repeat (first | apply Kd.R_alloc | apply Kd.R_drewN | apply Kd.R_drew)); exact Kd.R_mono HO_9.out (fun _ hk => trivial)⟩, ⟨by (with_reducible repeat (first | refine blk_drewN ?_ _ | refine blk_drew ?_ | refine blk_alloc ?_ _)); exact BK1001.out⟩, ⟨by repeat (first | (with_reducible first | exact HB.out | apply below_alloc | apply pw_below_drewN | apply below_drew1 | refine below_set ?_ GE1001.out) | exact HB.out)⟩⟩
                  case round =>
                    clear H'
                    try clear c1
                    try clear p1
                    try clear q1
                    try clear hx1
                    try clear p2
                    try clear c3
                    try clear p3
                    try clear q3
                    try clear hx3
                    try clear hf3
                    try clear c4
                    try clear c5
                    try clear c6
                    try clear p6
                    try clear c7
                    try clear c9
                    try clear p10
                    try clear q10
                    try clear hx10
                    try clear c13
                    try clear c13b0
                    try clear c13b1
                    try clear c15
                    try clear c15b0
                    try clear c15b1
                    try clear c16
                    try clear c16b0
                    try clear c16b1
                    try clear c32
                    try clear c32b0
                    try clear c33
                    try clear c33b0
                    try clear c34
                    try clear c34b0
                    try clear c35
                    try clear c35b0
                    try clear c36
                    try clear c36b0
                    try clear p37
                    try clear q37
                    try clear hx37
                    try clear hf37
                    try clear hcz10_0
                    try clear hcz10_1
                    try clear hcz19_0
                    try clear hcz19_1
                    try clear hcz21_0
                    try clear hcz21_1
                    try clear hcz23_0
                    try clear hcz23_1
                    try clear hfz10_0
                    try clear hfz10_1
                    try clear hfz19_0
                    try clear hfz19_1
                    try clear hfz21_0
                    try clear hfz21_1
                    try clear hfz23_0
                    try clear hfz23_1
                    try clear hx1018_0
                    try clear hx37_0
                    try clear p1018
                    try clear p2
                    try clear p37
                    try clear q1018
                    try clear q37
                    obtain ⟨x12_2, x63_2, rfl, HA, HK2, HO_11, HO_12, HO_61, BK1001, HB⟩ := hrel
                    cases gk with
                    | zero => exact absurd HA.out (by simp [flyoverlaw07_GrowRing.l1])
                    | succ k2 =>
                      have H := HA.out
                      clear HA
                      simp only [flyoverlaw07_GrowRing.l1] at H
                      by_cases c41 : x63_2 < (t1008.length : Int)
                      · rw [if_pos c41] at H
                        have c41b0 : decide (x63_2 < (t1008.length : Int)) = true := decide_eq_true c41
                        clear c41
                        by_cases c42 : 0 ≤ x63_2
                        · rw [if_pos c42] at H
                          have c42b0 : decide (0 ≤ x63_2) = true := decide_eq_true c42
                          clear c42
                          by_cases c43 : x63_2 < (t1008.length : Int)
                          · rw [if_pos c43] at H
                            have c43b0 : decide (x63_2 < (t1008.length : Int)) = true := decide_eq_true c43
                            clear c43
                            by_cases c44 : (rd t1008 x63_2) < 0
                            · rw [if_pos c44] at H
                              have c44b0 : decide ((rd t1008 x63_2) < 0) = true := decide_eq_true c44
                              clear c44
                              obtain rfl := Option.some.inj H
                              have p1020 : 0 ≤ (x63_2 : Int) := of_decide_eq_true (by first | (with_reducible assumption) | assumption)
                              have q1020 : x63_2 < (t1008.length : Int) := of_decide_eq_true (by first | (with_reducible assumption) | assumption)
                              obtain ⟨ad1020, e1020, hx1020_0⟩ := Kd.at_int (Kd.R_reads' HO_61.out).2.2 x63_2 p1020 q1020
                              cases e1020
                              replace p1020 := eq_true p1020
                              replace q1020 := eq_true q1020
                              go_wp2
                              go_ret
                              exact ⟨by first | rfl | (simp [errW_none, errW_some] <;> rfl) | (simp [*, errW_none, errW_some] <;> rfl), by repeat (first | (with_reducible first | exact HB.out | apply below_alloc | apply pw_below_drewN | apply below_drew1 | refine below_set ?_ GE1001.out) | exact HB.out)⟩
                            · rw [if_neg c44] at H
                              have c44b0 : decide ((rd t1008 x63_2) < 0) = false := decide_eq_false c44
                              clear c44
                              by_cases c45 : (rd t1008 x63_2) ≥ a0_0
                              · rw [if_pos c45] at H
                                have c45b0 : decide (a0_0 ≤ (rd t1008 x63_2)) = true := decide_eq_true c45
                                clear c45
                                obtain rfl := Option.some.inj H
                                have p1020 : 0 ≤ (x63_2 : Int) := of_decide_eq_true (by first | (with_reducible assumption) | assumption)
                                have q1020 : x63_2 < (t1008.length : Int) := of_decide_eq_true (by first | (with_reducible assumption) | assumption)
                                obtain ⟨ad1020, e1020, hx1020_0⟩ := Kd.at_int (Kd.R_reads' HO_61.out).2.2 x63_2 p1020 q1020
                                cases e1020
                                replace p1020 := eq_true p1020
                                replace q1020 := eq_true q1020
                                have hcz46_0 : wr.cell? ⟨gb1001, 0, none⟩ = some (.int .i64 a0_0) := (blk_cell BK1001.out 0).trans rfl
                                have hcz46_1 : wr.cell? ⟨gb1001, 1, none⟩ = some (.slice A0_1 l0_1.length c0_1) := (blk_cell BK1001.out 1).trans rfl
                                have hfz46_0 := blk_frozen BK1001.out 0
                                have hfz46_1 := blk_frozen BK1001.out 1
                                go_wp2
                                go_ret
                                exact ⟨by first | rfl | (simp [errW_none, errW_some] <;> rfl) | (simp [*, errW_none, errW_some] <;> rfl), by repeat (first | (with_reducible first | exact HB.out | apply below_alloc | apply pw_below_drewN | apply below_drew1 | refine below_set ?_ GE1001.out) | exact HB.out)⟩
                              · rw [if_neg c45] at H
                                have c45b0 : decide (a0_0 ≤ (rd t1008 x63_2)) = false := decide_eq_false c45
                                clear c45
                                by_cases c47 : 0 ≤ (rd t1008 x63_2)
                                · rw [if_pos c47] at H
                                  have c47b0 : decide (0 ≤ (rd t1008 x63_2)) = true := decide_eq_true c47
                                  clear c47
                                  by_cases c48 : (rd t1008 x63_2) < (x11_1.length : Int)
                                  · rw [if_pos c48] at H
                                    have c48b0 : decide ((rd t1008 x63_2) < (x11_1.length : Int)) = true := decide_eq_true c48
                                    clear c48
                                    obtain ⟨bq49, hbq49⟩ : ∃ b_ : Bool, b_ = (rdOf false x11_1 (rd t1008 x63_2)) := ⟨_, rfl⟩
                                    replace H : (if bq49 = true then (some false) else (if (rd t1008 x63_2) < (x12_2.length : Int) then (if rdOf false x12_2 (rd t1008 x63_2) = true then (some false) else (flyoverlaw07_GrowRing.l1 k2 t1011 x11_1 (x12_2.set ((rd t1008 x63_2) : Int).toNat true) t1008 (t1008.length : Int) (wrap64 (x63_2 + 1)) a0_0 l0_1)) else (none))) = some r := by rw [← hbq49] at H; exact H
                                    have Nbq49 := Aside0.mk hbq49
                                    clear hbq49
                                    by_cases c50 : bq49 = true
                                    · subst c50
                                      have H1 : (some false) = some r := by rw [if_pos rfl] at H; exact H
                                      clear H
                                      have H := H1
                                      clear H1
                                      obtain rfl := Option.some.inj H
                                      have p1020 : 0 ≤ (x63_2 : Int) := of_decide_eq_true (by first | (with_reducible assumption) | assumption)
                                      have q1020 : x63_2 < (t1008.length : Int) := of_decide_eq_true (by first | (with_reducible assumption) | assumption)
                                      obtain ⟨ad1020, e1020, hx1020_0⟩ := Kd.at_int (Kd.R_reads' HO_61.out).2.2 x63_2 p1020 q1020
                                      cases e1020
                                      replace p1020 := eq_true p1020
                                      replace q1020 := eq_true q1020
                                      have hcz51_0 : wr.cell? ⟨gb1001, 0, none⟩ = some (.int .i64 a0_0) := (blk_cell BK1001.out 0).trans rfl
                                      have hcz51_1 : wr.cell? ⟨gb1001, 1, none⟩ = some (.slice A0_1 l0_1.length c0_1) := (blk_cell BK1001.out 1).trans rfl
                                      have hfz51_0 := blk_frozen BK1001.out 0
                                      have hfz51_1 := blk_frozen BK1001.out 1
                                      obtain ⟨Ao52, co52, eo52⟩ := Kd.R_slice HO_11.out
                                      subst eo52
                                      have p1021 : 0 ≤ ((rd t1008 x63_2) : Int) := of_decide_eq_true (by first | (with_reducible assumption) | assumption)
                                      have q1021 : (rd t1008 x63_2) < (x11_1.length : Int) := of_decide_eq_true (by first | (with_reducible assumption) | assumption)
                                      obtain ⟨ad1021, e1021, hx1021_0⟩ := Kd.at_bool (Kd.R_reads' HO_11.out).2.2 (rd t1008 x63_2) p1021 q1021
                                      (try rw [← Nbq49.out] at hx1021_0)
                                      cases e1021
                                      replace p1021 := eq_true p1021
                                      replace q1021 := eq_true q1021
                                      go_wp2
                                      go_ret
                                      exact ⟨by first | rfl | (simp [errW_none, errW_some] <;> rfl) | (simp [*, errW_none, errW_some] <;> rfl), by repeat (first | (with_reducible first | exact HB.out | apply below_alloc | apply pw_below_drewN | apply below_drew1 | refine below_set ?_ GE1001.out) | exact HB.out)⟩
                                    · replace c50 := Bool.eq_false_iff.mpr c50
                                      subst c50
                                      have H1 : (if (rd t1008 x63_2) < (x12_2.length : Int) then (if rdOf false x12_2 (rd t1008 x63_2) = true then (some false) else (flyoverlaw07_GrowRing.l1 k2 t1011 x11_1 (x12_2.set ((rd t1008 x63_2) : Int).toNat true) t1008 (t1008.length : Int) (wrap64 (x63_2 + 1)) a0_0 l0_1)) else (none)) = some r := by rw [if_neg (show ¬ (false = true) by decide)] at H; exact H
                                      clear H
                                      have H := H1
                                      clear H1
                                      by_cases c53 : (rd t1008 x63_2) < (x12_2.length : Int)
                                      · rw [if_pos c53] at H
                                        have c53b0 : decide ((rd t1008 x63_2) < (x12_2.length : Int)) = true := decide_eq_true c53
                                        clear c53
                                        obtain ⟨bq54, hbq54⟩ : ∃ b_ : Bool, b_ = (rdOf false x12_2 (rd t1008 x63_2)) := ⟨_, rfl⟩
                                        replace H : (if bq54 = true then (some false) else (flyoverlaw07_GrowRing.l1 k2 t1011 x11_1 (x12_2.set ((rd t1008 x63_2) : Int).toNat true) t1008 (t1008.length : Int) (wrap64 (x63_2 + 1)) a0_0 l0_1)) = some r := by rw [← hbq54] at H; exact H
                                        have Nbq54 := Aside0.mk hbq54
                                        clear hbq54
                                        by_cases c55 : bq54 = true
                                        · subst c55
                                          have H1 : (some false) = some r := by rw [if_pos rfl] at H; exact H
                                          clear H
                                          have H := H1
                                          clear H1
                                          obtain rfl := Option.some.inj H
                                          have p1020 : 0 ≤ (x63_2 : Int) := of_decide_eq_true (by first | (with_reducible assumption) | assumption)
                                          have q1020 : x63_2 < (t1008.length : Int) := of_decide_eq_true (by first | (with_reducible assumption) | assumption)
                                          obtain ⟨ad1020, e1020, hx1020_0⟩ := Kd.at_int (Kd.R_reads' HO_61.out).2.2 x63_2 p1020 q1020
                                          cases e1020
                                          replace p1020 := eq_true p1020
                                          replace q1020 := eq_true q1020
                                          have hcz56_0 : wr.cell? ⟨gb1001, 0, none⟩ = some (.int .i64 a0_0) := (blk_cell BK1001.out 0).trans rfl
                                          have hcz56_1 : wr.cell? ⟨gb1001, 1, none⟩ = some (.slice A0_1 l0_1.length c0_1) := (blk_cell BK1001.out 1).trans rfl
                                          have hfz56_0 := blk_frozen BK1001.out 0
                                          have hfz56_1 := blk_frozen BK1001.out 1
                                          obtain ⟨Ao57, co57, eo57⟩ := Kd.R_slice HO_11.out
                                          subst eo57
                                          have p1021 : 0 ≤ ((rd t1008 x63_2) : Int) := of_decide_eq_true (by first | (with_reducible assumption) | assumption)
                                          have q1021 : (rd t1008 x63_2) < (x11_1.length : Int) := of_decide_eq_true (by first | (with_reducible assumption) | assumption)
                                          obtain ⟨ad1021, e1021, hx1021_0⟩ := Kd.at_bool (Kd.R_reads' HO_11.out).2.2 (rd t1008 x63_2) p1021 q1021
                                          (try rw [← Nbq49.out] at hx1021_0)
                                          (try rw [← Nbq54.out] at hx1021_0)
                                          cases e1021
                                          replace p1021 := eq_true p1021
                                          replace q1021 := eq_true q1021
                                          obtain ⟨Ao58, co58, eo58⟩ := Kd.R_slice HO_12.out
                                          subst eo58
                                          have p1022 : 0 ≤ ((rd t1008 x63_2) : Int) := of_decide_eq_true (by first | (with_reducible assumption) | assumption)
                                          have q1022 : (rd t1008 x63_2) < (x12_2.length : Int) := of_decide_eq_true (by first | (with_reducible assumption) | assumption)
                                          obtain ⟨ad1022, e1022, hx1022_0⟩ := Kd.at_bool (Kd.R_reads' HO_12.out).2.2 (rd t1008 x63_2) p1022 q1022
                                          (try rw [← Nbq49.out] at hx1022_0)
                                          (try rw [← Nbq54.out] at hx1022_0)
                                          cases e1022
                                          replace p1022 := eq_true p1022
                                          replace q1022 := eq_true q1022
                                          go_wp2
                                          go_ret
                                          exact ⟨by first | rfl | (simp [errW_none, errW_some] <;> rfl) | (simp [*, errW_none, errW_some] <;> rfl), by repeat (first | (with_reducible first | exact HB.out | apply below_alloc | apply pw_below_drewN | apply below_drew1 | refine below_set ?_ GE1001.out) | exact HB.out)⟩
                                        · replace c55 := Bool.eq_false_iff.mpr c55
                                          subst c55
                                          have H1 : (flyoverlaw07_GrowRing.l1 k2 t1011 x11_1 (x12_2.set ((rd t1008 x63_2) : Int).toNat true) t1008 (t1008.length : Int) (wrap64 (x63_2 + 1)) a0_0 l0_1) = some r := by rw [if_neg (show ¬ (false = true) by decide)] at H; exact H
                                          clear H
                                          have H := H1
                                          clear H1
                                          obtain ⟨y1023, hy1023⟩ : ∃ y_ : List Bool, y_ = (x12_2.set ((rd t1008 x63_2) : Int).toNat true) := ⟨_, rfl⟩
                                          replace H : (flyoverlaw07_GrowRing.l1 k2 t1011 x11_1 y1023 t1008 (t1008.length : Int) (wrap64 (x63_2 + 1)) a0_0 l0_1) = some r := by first | (rw [hy1023]; with_reducible exact H) | (have H2_ := (Option.bind_some _ _).symm.trans H; rw [hy1023]; with_reducible exact H2_) | (have H2_ := (Option.bind_some _ _).symm.trans H; with_reducible exact H2_) | with_reducible exact H | (rw [hy1023]; exact H) | exact H
                                          have Ny1023 := Aside0.mk hy1023
                                          clear hy1023
                                          have H' := Aside0.mk H
                                          clear H
                                          have p1020 : 0 ≤ (x63_2 : Int) := of_decide_eq_true (by first | (with_reducible assumption) | assumption)
                                          have q1020 : x63_2 < (t1008.length : Int) := of_decide_eq_true (by first | (with_reducible assumption) | assumption)
                                          obtain ⟨ad1020, e1020, hx1020_0⟩ := Kd.at_int (Kd.R_reads' HO_61.out).2.2 x63_2 p1020 q1020
                                          cases e1020
                                          replace p1020 := eq_true p1020
                                          replace q1020 := eq_true q1020
                                          have hcz60_0 : wr.cell? ⟨gb1001, 0, none⟩ = some (.int .i64 a0_0) := (blk_cell BK1001.out 0).trans rfl
                                          have hcz60_1 : wr.cell? ⟨gb1001, 1, none⟩ = some (.slice A0_1 l0_1.length c0_1) := (blk_cell BK1001.out 1).trans rfl
                                          have hfz60_0 := blk_frozen BK1001.out 0
                                          have hfz60_1 := blk_frozen BK1001.out 1
                                          obtain ⟨Ao61, co61, eo61⟩ := Kd.R_slice HO_11.out
                                          subst eo61
                                          have p1021 : 0 ≤ ((rd t1008 x63_2) : Int) := of_decide_eq_true (by first | (with_reducible assumption) | assumption)
                                          have q1021 : (rd t1008 x63_2) < (x11_1.length : Int) := of_decide_eq_true (by first | (with_reducible assumption) | assumption)
                                          obtain ⟨ad1021, e1021, hx1021_0⟩ := Kd.at_bool (Kd.R_reads' HO_11.out).2.2 (rd t1008 x63_2) p1021 q1021
                                          (try rw [← Nbq49.out] at hx1021_0)
                                          (try rw [← Nbq54.out] at hx1021_0)
                                          cases e1021
                                          replace p1021 := eq_true p1021
                                          replace q1021 := eq_true q1021
                                          obtain ⟨Ao62, co62, eo62⟩ := Kd.R_slice HO_12.out
                                          subst eo62
                                          have p1022 : 0 ≤ ((rd t1008 x63_2) : Int) := of_decide_eq_true (by first | (with_reducible assumption) | assumption)
                                          have q1022 : (rd t1008 x63_2) < (x12_2.length : Int) := of_decide_eq_true (by first | (with_reducible assumption) | assumption)
                                          obtain ⟨ad1022, e1022, hx1022_0⟩ := Kd.at_bool (Kd.R_reads' HO_12.out).2.2 (rd t1008 x63_2) p1022 q1022
                                          (try rw [← Nbq49.out] at hx1022_0)
                                          (try rw [← Nbq54.out] at hx1022_0)
                                          cases e1022
                                          replace p1022 := eq_true p1022
                                          replace q1022 := eq_true q1022
                                          have p59 : 0 ≤ ((rd t1008 x63_2) : Int) := of_decide_eq_true (by first | (with_reducible assumption) | assumption)
                                          have q59 : ((rd t1008 x63_2) : Int) < ((x12_2.length : Int) : Int) := of_decide_eq_true (by first | (with_reducible assumption) | assumption)
                                          obtain ⟨go59, co59, eo59, gb59, gl59, cl59, HG59⟩ := Kd.R_form HO_12.out (by omega)
                                          (first | cases eo59 | (injection eo59 with ea_ en_ ec_; (first | subst ea_ | (injection ea_ with ea_; subst ea_)); subst ec_; clear en_))
                                          have GB59 := Aside0.mk gb59
                                          have GG59 := Aside0.mk HG59
                                          clear gb59 gl59 HG59
                                          (first | simp only [add_plain] at hx1022_0 | skip)
                                          obtain ⟨hx59_0, hf59_0⟩ := Kd.R_celln false HO_12.out ((rd t1008 x63_2) : Int) p59 q59
                                          replace p59 := eq_true p59
                                          replace q59 := eq_true q59
                                          have HP63 := Kd.R_putg HO_12.out ((rd t1008 x63_2) : Int) true
                                          go_wp2_with (first | ((with_reducible refine gate_store (t := 4) (p := 89) rfl ?_); refine store_event (t := 4) (p := 89) (v := ?vo_w64) (w1 := (wr.setCell ⟨go59, ((rd t1008 x63_2) : Int).toNat, none⟩ (.bool true))) ?hg ?ho ?hn ?hr ?_; (case ho => rfl); (case hg => rfl); (case hn => rfl); (case hr => first | (go_simp; done) | (go_simp; rfl)); intro w64 hw; have hg : wr.grownBy w64 (some go59) := (by rw [hw]; exact HP63.2); have hp_ : Kd.R Kd.bool 4 w64 w.heap.size (fun k_ => some k_ ≠ (.slice (some ad1021) x11_1.length co61 : Value).ownBlock) (.slice (some ⟨go59, 0, none⟩) x12_2.length co62) y1023 := (by rw [hw, Ny1023.out]; exact HP63.1); clear HP63; have n0_ := Aside0.mk (Kd.R_after (v := (.slice (some ⟨go59, 0, none⟩) x12_2.length co62)) (v1 := (.slice (some ⟨go59, 0, none⟩) x12_2.length co62)) (ok := (fun _ => True)) (by (with_reducible repeat (first | apply Kd.R_alloc | apply Kd.R_drewN | apply Kd.R_drew)); exact Kd.R_mono HO_11.out (fun _ hk => ⟨trivial, hk⟩)) hg (.inl rfl)); have n1_ := Aside0.mk (hp_); have n2_ := Aside0.mk (Kd.R_over' (v := (.slice (some ⟨go59, 0, none⟩) x12_2.length co62)) (by (with_reducible repeat (first | apply Kd.R_alloc | apply Kd.R_drewN | apply Kd.R_drew)); exact HO_61.out) (Kd.R_typed HO_12.out) (by decide) hg); have n3_ := Aside0.mk (blk_grown (g := gb1001) (o := .cells #[.int .i64 a0_0, .slice A0_1 l0_1.length c0_1] 24 (0, 0)) (by (with_reducible repeat (first | refine blk_drewN ?_ _ | refine blk_drew ?_ | refine blk_alloc ?_ _)); exact BK1001.out) hg (Kd.R_ne HO_12.out BK1001.out (by decide))); have n4_ := Aside0.mk ((by rw [hw]; exact below_set (HB.out) GB59.out : Below w.heap.size w w64)); clear HO_11; clear HO_12; clear HO_61; clear BK1001; clear HB; have HO_11 := n0_; have HO_12 := n1_; have HO_61 := n2_; have BK1001 := n3_; have HB := n4_; clear n0_ n1_ n2_ n3_ n4_; clear hg hw hp_))
                                          go_roundg k2
                                          case measure => have := HK1.out; have := HK2.out; omega
                                          case rel => exact ⟨(y1023), (wrap64 (x63_2 + 1)), (by first | rfl | (simp; done) | (simp [*]; done)), H', ⟨by have := HK1.out; have := HK2.out; omega⟩, ⟨by (with_reducible repeat (first | apply Kd.R_alloc | apply Kd.R_drewN | apply Kd.R_drew)); exact Kd.R_mono HO_11.out (fun _ hk => hk.2)⟩, ⟨by (with_reducible repeat (first | apply Kd.R_alloc | apply Kd.R_drewN | apply Kd.R_drew)); exact HO_12.out⟩, ⟨by (with_reducible repeat (first | apply Kd.R_alloc | apply Kd.R_drewN | apply Kd.R_drew)); exact HO_61.out⟩, ⟨by (with_reducible repeat (first | refine blk_drewN ?_ _ | refine blk_drew ?_ | refine blk_alloc ?_ _)); exact BK1001.out⟩, ⟨by repeat (first | (with_reducible first | exact HB.out | apply below_alloc | apply pw_below_drewN | apply below_drew1 | refine below_set ?_ GE1001.out) | exact HB.out)⟩⟩
                                      · rw [if_neg c53] at H
                                        exact absurd H (by simp)
                                  · rw [if_neg c48] at H
                                    exact absurd H (by simp)
                                · rw [if_neg c47] at H
                                  exact absurd H (by simp)
                          · rw [if_neg c43] at H
                            exact absurd H (by simp)
                        · rw [if_neg c42] at H
                          exact absurd H (by simp)
                      · rw [if_neg c41] at H
                        have c41b0 : decide (x63_2 < (t1008.length : Int)) = false := decide_eq_false c41
                        clear c41
                        have H' := Aside0.mk H
                        clear H
                        have hcz65_0 : wr.cell? ⟨gb1001, 0, none⟩ = some (.int .i64 a0_0) := (blk_cell BK1001.out 0).trans rfl
                        have hcz65_1 : wr.cell? ⟨gb1001, 1, none⟩ = some (.slice A0_1 l0_1.length c0_1) := (blk_cell BK1001.out 1).trans rfl
                        have hfz65_0 := blk_frozen BK1001.out 0
                        have hfz65_1 := blk_frozen BK1001.out 1
                        go_wp2
                        go_loopg [93] k2 (fun kq v93 w' => ∃ (x93_3 : Int), v93 = .int .i64 x93_3 ∧ Aside0 (flyoverlaw07_GrowRing.l2 kq t1011 x11_1 x12_2 a0_0 x93_3 a0_0 l0_1 = some r) ∧ Aside0 (kq ≤ k2) ∧ Aside0 (Kd.R Kd.bool 4 w' w.heap.size (fun k_ => some k_ ≠ (v1016 : Value).ownBlock) v1013 x11_1) ∧ Aside0 (Kd.R Kd.bool 4 w' w.heap.size (fun k_ => some k_ ≠ (v1013 : Value).ownBlock) v1016 x12_2) ∧ Aside0 (w'.heap[gb1001]? = some (.cells #[.int .i64 a0_0, (.slice A0_1 l0_1.length c0_1)] 24 (0, 0))) ∧ Aside0 (Below w.heap.size w w'))
                        case atStart => exact ⟨(0), (by first | rfl | (simp; done) | (simp [*]; done)), H', ⟨Nat.le_refl _⟩, ⟨by (with_reducible repeat (first | apply Kd.R_alloc | apply Kd.R_drewN | apply Kd.R_drew)); exact HO_11.out⟩, ⟨by (with_reducible repeat (first | apply Kd.R_alloc | apply Kd.R_drewN | apply Kd.R_drew)); exact HO_12.out⟩, ⟨by (with_reducible repeat (first | refine blk_drewN ?_ _ | refine blk_drew ?_ | refine blk_alloc ?_ _)); exact BK1001.out⟩, ⟨by repeat (first | (with_reducible first | exact HB.out | apply below_alloc | apply pw_below_drewN | apply below_drew1 | refine below_set ?_ GE1001.out) | exact HB.out)⟩⟩
                        case round =>
                          clear H'
                          try clear c1
                          try clear p1
                          try clear q1
                          try clear hx1
                          try clear p2
                          try clear c3
                          try clear p3
                          try clear q3
                          try clear hx3
                          try clear hf3
                          try clear c4
                          try clear q4
                          try clear c5
                          try clear p5
                          try clear q5
                          try clear hx5
                          try clear hf5
                          try clear c6
                          try clear p6
                          try clear c7
                          try clear c9
                          try clear p10
                          try clear q10
                          try clear hx10
                          try clear c13
                          try clear c13b0
                          try clear c13b1
                          try clear c15
                          try clear c15b0
                          try clear c15b1
                          try clear c16
                          try clear c16b0
                          try clear c16b1
                          try clear c32
                          try clear c32b0
                          try clear c33
                          try clear c33b0
                          try clear c34
                          try clear c34b0
                          try clear c35
                          try clear c35b0
                          try clear c36
                          try clear c36b0
                          try clear p37
                          try clear q37
                          try clear hx37
                          try clear hf37
                          try clear c41
                          try clear c41b0
                          try clear c42
                          try clear c42b0
                          try clear c43
                          try clear c43b0
                          try clear c44
                          try clear c44b0
                          try clear c45
                          try clear c45b0
                          try clear c47
                          try clear c47b0
                          try clear c48
                          try clear c48b0
                          try clear q49
                          try clear c50
                          try clear c53
                          try clear c53b0
                          try clear q54
                          try clear c55
                          try clear p59
                          try clear q59
                          try clear hx59
                          try clear hf59
                          try clear p64
                          try clear hcz10_0
                          try clear hcz10_1
                          try clear hcz19_0
                          try clear hcz19_1
                          try clear hcz21_0
                          try clear hcz21_1
                          try clear hcz23_0
                          try clear hcz23_1
                          try clear hcz46_0
                          try clear hcz46_1
                          try clear hcz51_0
                          try clear hcz51_1
                          try clear hcz56_0
                          try clear hcz56_1
                          try clear hcz60_0
                          try clear hcz60_1
                          try clear hcz65_0
                          try clear hcz65_1
                          try clear hfz10_0
                          try clear hfz10_1
                          try clear hfz19_0
                          try clear hfz19_1
                          try clear hfz21_0
                          try clear hfz21_1
                          try clear hfz23_0
                          try clear hfz23_1
                          try clear hfz46_0
                          try clear hfz46_1
                          try clear hfz51_0
                          try clear hfz51_1
                          try clear hfz56_0
                          try clear hfz56_1
                          try clear hfz60_0
                          try clear hfz60_1
                          try clear hfz65_0
                          try clear hfz65_1
                          try clear hx1018_0
                          try clear hx1020_0
                          try clear hx1021_0
                          try clear hx1022_0
                          try clear hx37_0
                          try clear hx59_0
                          try clear p1
                          try clear p10
                          try clear p1018
                          try clear p1020
                          try clear p1021
                          try clear p1022
                          try clear p2
                          try clear p3
                          try clear p37
                          try clear p59
                          try clear p6
                          try clear q1
                          try clear q10
                          try clear q1018
                          try clear q1020
                          try clear q1021
                          try clear q1022
                          try clear q3
                          try clear q37
                          try clear q59
                          obtain ⟨x93_3, rfl, HA, HK3, HO_11, HO_12, BK1001, HB⟩ := hrel
                          cases gk with
                          | zero => exact absurd HA.out (by simp [flyoverlaw07_GrowRing.l2])
                          | succ k3 =>
                            have H := HA.out
                            clear HA
                            simp only [flyoverlaw07_GrowRing.l2] at H
                            by_cases c66 : x93_3 < a0_0
                            · rw [if_pos c66] at H
                              have c66b0 : decide (x93_3 < a0_0) = true := decide_eq_true c66
                              clear c66
                              replace H := Option.bind_eq_some_iff.mp H
                              obtain ⟨⟨t1024, t1027⟩, A670, H⟩ := H
                              replace H : (flyoverlaw07_GrowRing.l3 k3 t1011 x11_1 x12_2 x93_3 t1027 false a0_0 x93_3 t1024 (t1024.length : Int) 0 a0_0 l0_1) = some r := H
                              have A67 := Aside0.mk A670
                              clear A670
                              have H' := Aside0.mk H
                              clear H
                              have hcz68_0 : wr.cell? ⟨gb1001, 0, none⟩ = some (.int .i64 a0_0) := (blk_cell BK1001.out 0).trans rfl
                              have hcz68_1 : wr.cell? ⟨gb1001, 1, none⟩ = some (.slice A0_1 l0_1.length c0_1) := (blk_cell BK1001.out 1).trans rfl
                              have hfz68_0 := blk_frozen BK1001.out 0
                              have hfz68_1 := blk_frozen BK1001.out 1
                              go_wp2_with (first | ((with_reducible refine gate_callee (f := 17) rfl ?_); refine goesL_ (some 99) rfl rfl Try.func17 (by kernel_rfl) rfl #[.agg #[.int .i64 a0_0, .slice A0_1 l0_1.length c0_1], .int .i64 x93_3] rfl (by (try simp only [List.map_toArray, List.map_cons, List.map_nil]); first | done | rfl | (simp only [List.length_drop, List.length_take]; rfl)) ?_; (with_reducible refine (graph_Neighbours.calls k3 a0_0 _ _ l0_1 x93_3 t1024 t1027 _ ?side1 ?side2 A67.out).mono ?_); (case side1 => repeat (first | exact (Kd.C_below HR0_1.out HB.out) | (with_reducible refine Kd.C_alloc ?_ _) | (with_reducible refine Kd.C_drewN ?_ _) | (with_reducible refine Kd.C_drew ?_))); (case side2 => exact HC0_1.out); rintro e w69 ⟨v1025, rfl, ho0, hb⟩; refine ⟨_, rfl, ?_⟩; have n0_ := Aside0.mk (Kd.R_below (by (with_reducible repeat (first | apply Kd.R_alloc | apply Kd.R_drewN | apply Kd.R_drew)); exact HO_11.out) hb); have n1_ := Aside0.mk (Kd.R_below (by (with_reducible repeat (first | apply Kd.R_alloc | apply Kd.R_drewN | apply Kd.R_drew)); exact HO_12.out) hb); have n2_ := Aside0.mk (Kd.V_lower (Kd.V_mono (ok' := fun k_ => some k_ ≠ (v1013 : Value).ownBlock ∧ some k_ ≠ (v1016 : Value).ownBlock ∧ k_ ≠ gb1001) ho0 (fun k_ hk_ => ⟨(Kd.fresh' (Kd.R_lt (by (with_reducible repeat (first | apply Kd.R_alloc | apply Kd.R_drewN | apply Kd.R_drew)); exact HO_11.out)) k_ hk_), (Kd.fresh' (Kd.R_lt (by (with_reducible repeat (first | apply Kd.R_alloc | apply Kd.R_drewN | apply Kd.R_drew)); exact HO_12.out)) k_ hk_), (Kd.freshB (g := gb1001) (o := .cells #[.int .i64 a0_0, .slice A0_1 l0_1.length c0_1] 24 (0, 0)) (by (with_reducible repeat (first | refine blk_drewN ?_ _ | refine blk_drew ?_ | refine blk_alloc ?_ _)); exact BK1001.out) k_ hk_)⟩)) (below_size (by repeat (first | (with_reducible first | exact HB.out | apply below_alloc | apply pw_below_drewN | apply below_drew1 | refine below_set ?_ GE1001.out) | exact HB.out)))); have n3_ := Aside0.mk (blk_below (g := gb1001) (o := .cells #[.int .i64 a0_0, .slice A0_1 l0_1.length c0_1] 24 (0, 0)) (by (with_reducible repeat (first | refine blk_drewN ?_ _ | refine blk_drew ?_ | refine blk_alloc ?_ _)); exact BK1001.out) hb); have n4_ := Aside0.mk (below_step (by repeat (first | (with_reducible first | exact HB.out | apply below_alloc | apply pw_below_drewN | apply below_drew1 | refine below_set ?_ GE1001.out) | exact HB.out)) hb); clear HO_11; clear HO_12; clear BK1001; clear HB; have HO_11 := n0_; have HO_12 := n1_; have HO1026 := n2_; have BK1001 := n3_; have HB := n4_; clear n0_ n1_ n2_ n3_ n4_; (try clear hb); (try clear hb2); (try clear hk); (try clear hi); (try clear ho0); obtain ⟨Ao70, co70, eo70⟩ := Kd.V_slice HO1026.out; subst eo70))
                              go_loopg [20, 104] k3 (fun kq v20 v104 w' => ∃ (x20_4 : Bool) (x104_4 : Int), v20 = .bool x20_4 ∧ v104 = .int .i64 x104_4 ∧ Aside0 (flyoverlaw07_GrowRing.l3 kq t1011 x11_1 x12_2 x93_3 t1027 x20_4 a0_0 x93_3 t1024 (t1024.length : Int) x104_4 a0_0 l0_1 = some r) ∧ Aside0 (kq ≤ k3) ∧ Aside0 (Kd.R Kd.bool 4 w' w.heap.size (fun k_ => some k_ ≠ (v1016 : Value).ownBlock) v1013 x11_1) ∧ Aside0 (Kd.R Kd.bool 4 w' w.heap.size (fun k_ => some k_ ≠ (v1013 : Value).ownBlock) v1016 x12_2) ∧ Aside0 (Kd.V (Kd.int .i64) 3 w' w.heap.size (fun k_ => some k_ ≠ (v1013 : Value).ownBlock ∧ some k_ ≠ (v1016 : Value).ownBlock ∧ k_ ≠ gb1001) (.slice Ao70 t1024.length co70) t1024) ∧ Aside0 (w'.heap[gb1001]? = some (.cells #[.int .i64 a0_0, (.slice A0_1 l0_1.length c0_1)] 24 (0, 0))) ∧ Aside0 (Below w.heap.size w w'))
                              case atStart => exact ⟨(false), (0), (by first | rfl | (simp; done) | (simp [*]; done)), (by first | rfl | (simp; done) | (simp [*]; done)), H', ⟨Nat.le_refl _⟩, ⟨by (with_reducible repeat (first | apply Kd.R_alloc | apply Kd.R_drewN | apply Kd.R_drew)); exact HO_11.out⟩, ⟨by (with_reducible repeat (first | apply Kd.R_alloc | apply Kd.R_drewN | apply Kd.R_drew)); exact HO_12.out⟩, ⟨by (with_reducible repeat (first | apply Kd.V_alloc | apply Kd.V_drewN | apply Kd.V_drew)); exact HO1026.out⟩, ⟨by (with_reducible repeat (first | refine blk_drewN ?_ _ | refine blk_drew ?_ | refine blk_alloc ?_ _)); exact BK1001.out⟩, ⟨by repeat (first | (with_reducible first | exact HB.out | apply below_alloc | apply pw_below_drewN | apply below_drew1 | refine below_set ?_ GE1001.out) | exact HB.out)⟩⟩
                              case round =>
                                clear H'
                                try clear c1
                                try clear p1
                                try clear q1
                                try clear hx1
                                try clear p2
                                try clear c3
                                try clear p3
                                try clear q3
                                try clear hx3
                                try clear hf3
                                try clear c4
                                try clear q4
                                try clear c5
                                try clear p5
                                try clear q5
                                try clear hx5
                                try clear hf5
                                try clear c6
                                try clear p6
                                try clear c7
                                try clear c9
                                try clear p10
                                try clear q10
                                try clear hx10
                                try clear c13
                                try clear c13b0
                                try clear c13b1
                                try clear c15
                                try clear c15b0
                                try clear c15b1
                                try clear c16
                                try clear c16b0
                                try clear c16b1
                                try clear c17
                                try clear c32
                                try clear c32b0
                                try clear c33
                                try clear c33b0
                                try clear c34
                                try clear c34b0
                                try clear c35
                                try clear c35b0
                                try clear c36
                                try clear c36b0
                                try clear p37
                                try clear q37
                                try clear hx37
                                try clear hf37
                                try clear c41
                                try clear c41b0
                                try clear c42
                                try clear c42b0
                                try clear c43
                                try clear c43b0
                                try clear c44
                                try clear c44b0
                                try clear c45
                                try clear c45b0
                                try clear c47
                                try clear c47b0
                                try clear c48
                                try clear c48b0
                                try clear q49
                                try clear c50
                                try clear c53
                                try clear c53b0
                                try clear q54
                                try clear c55
                                try clear p59
                                try clear q59
                                try clear hx59
                                try clear hf59
                                try clear p64
                                try clear c66
                                try clear c66b0
                                try clear hcz10_0
                                try clear hcz10_1
                                try clear hcz19_0
                                try clear hcz19_1
                                try clear hcz21_0
                                try clear hcz21_1
                                try clear hcz23_0
                                try clear hcz23_1
                                try clear hcz46_0
                                try clear hcz46_1
                                try clear hcz51_0
                                try clear hcz51_1
                                try clear hcz56_0
                                try clear hcz56_1
                                try clear hcz60_0
                                try clear hcz60_1
                                try clear hcz65_0
                                try clear hcz65_1
                                try clear hcz68_0
                                try clear hcz68_1
                                try clear hfz10_0
                                try clear hfz10_1
                                try clear hfz19_0
                                try clear hfz19_1
                                try clear hfz21_0
                                try clear hfz21_1
                                try clear hfz23_0
                                try clear hfz23_1
                                try clear hfz46_0
                                try clear hfz46_1
                                try clear hfz51_0
                                try clear hfz51_1
                                try clear hfz56_0
                                try clear hfz56_1
                                try clear hfz60_0
                                try clear hfz60_1
                                try clear hfz65_0
                                try clear hfz65_1
                                try clear hfz68_0
                                try clear hfz68_1
                                try clear hx1018_0
                                try clear hx1020_0
                                try clear hx1021_0
                                try clear hx1022_0
                                try clear hx37_0
                                try clear hx59_0
                                try clear p1
                                try clear p10
                                try clear p1018
                                try clear p1020
                                try clear p1021
                                try clear p1022
                                try clear p2
                                try clear p3
                                try clear p37
                                try clear p5
                                try clear p59
                                try clear p6
                                try clear p64
                                try clear q1
                                try clear q10
                                try clear q1018
                                try clear q1020
                                try clear q1021
                                try clear q1022
                                try clear q3
                                try clear q37
                                try clear q4
                                try clear q49
                                try clear q5
                                try clear q54
                                try clear q59
                                obtain ⟨x20_4, x104_4, rfl, rfl, HA, HK4, HO_11, HO_12, HO_102, BK1001, HB⟩ := hrel
                                cases gk with
                                | zero => exact absurd HA.out (by simp [flyoverlaw07_GrowRing.l3])
                                | succ k4 =>
                                  have H := HA.out
                                  clear HA
                                  simp only [flyoverlaw07_GrowRing.l3] at H
                                  by_cases c71 : x104_4 < (t1024.length : Int)
                                  · rw [if_pos c71] at H
                                    have c71b0 : decide (x104_4 < (t1024.length : Int)) = true := decide_eq_true c71
                                    clear c71
                                    by_cases c72 : 0 ≤ x104_4
                                    · rw [if_pos c72] at H
                                      have c72b0 : decide (0 ≤ x104_4) = true := decide_eq_true c72
                                      clear c72
                                      by_cases c73 : x104_4 < (t1024.length : Int)
                                      · rw [if_pos c73] at H
                                        have c73b0 : decide (x104_4 < (t1024.length : Int)) = true := decide_eq_true c73
                                        clear c73
                                        by_cases c74 : x20_4 = true
                                        · subst c74
                                          have H1 : (flyoverlaw07_GrowRing.l3 k4 t1011 x11_1 x12_2 x93_3 t1027 true a0_0 x93_3 t1024 (t1024.length : Int) (wrap64 (x104_4 + 1)) a0_0 l0_1) = some r := by rw [if_pos rfl] at H; exact H
                                          clear H
                                          have H := H1
                                          clear H1
                                          have H' := Aside0.mk H
                                          clear H
                                          have p1028 : 0 ≤ (x104_4 : Int) := of_decide_eq_true (by first | (with_reducible assumption) | assumption)
                                          have q1028 : x104_4 < (t1024.length : Int) := of_decide_eq_true (by first | (with_reducible assumption) | assumption)
                                          obtain ⟨ad1028, e1028, hx1028_0⟩ := Kd.at_int (Kd.V_reads' HO_102.out).2.2 x104_4 p1028 q1028
                                          cases e1028
                                          replace p1028 := eq_true p1028
                                          replace q1028 := eq_true q1028
                                          go_wp2
                                          go_roundg k4
                                          case measure => have := HK1.out; have := HK2.out; have := HK3.out; have := HK4.out; omega
                                          case rel => exact ⟨(true), (wrap64 (x104_4 + 1)), (by first | rfl | (simp; done) | (simp [*]; done)), (by first | rfl | (simp; done) | (simp [*]; done)), H', ⟨by have := HK1.out; have := HK2.out; have := HK3.out; have := HK4.out; omega⟩, ⟨by (with_reducible repeat (first | apply Kd.R_alloc | apply Kd.R_drewN | apply Kd.R_drew)); exact HO_11.out⟩, ⟨by (with_reducible repeat (first | apply Kd.R_alloc | apply Kd.R_drewN | apply Kd.R_drew)); exact HO_12.out⟩, ⟨by (with_reducible repeat (first | apply Kd.V_alloc | apply Kd.V_drewN | apply Kd.V_drew)); exact HO_102.out⟩, ⟨by (with_reducible repeat (first | refine blk_drewN ?_ _ | refine blk_drew ?_ | refine blk_alloc ?_ _)); exact BK1001.out⟩, ⟨by repeat (first | (with_reducible first | exact HB.out | apply below_alloc | apply pw_below_drewN | apply below_drew1 | refine below_set ?_ GE1001.out) | exact HB.out)⟩⟩
                                        · replace c74 := Bool.eq_false_iff.mpr c74
                                          subst c74
                                          have H1 : (if 0 ≤ (rd t1024 x104_4) then (if (rd t1024 x104_4) < (x11_1.length : Int) then (flyoverlaw07_GrowRing.l3 k4 t1011 x11_1 x12_2 x93_3 t1027 (rdOf false x11_1 (rd t1024 x104_4)) a0_0 x93_3 t1024 (t1024.length : Int) (wrap64 (x104_4 + 1)) a0_0 l0_1) else (none)) else (none)) = some r := by rw [if_neg (show ¬ (false = true) by decide)] at H; exact H
                                          clear H
                                          have H := H1
                                          clear H1
                                          by_cases c75 : 0 ≤ (rd t1024 x104_4)
                                          · rw [if_pos c75] at H
                                            have c75b0 : decide (0 ≤ (rd t1024 x104_4)) = true := decide_eq_true c75
                                            clear c75
                                            by_cases c76 : (rd t1024 x104_4) < (x11_1.length : Int)
                                            · rw [if_pos c76] at H
                                              have c76b0 : decide ((rd t1024 x104_4) < (x11_1.length : Int)) = true := decide_eq_true c76
                                              clear c76
                                              have H' := Aside0.mk H
                                              clear H
                                              have p1028 : 0 ≤ (x104_4 : Int) := of_decide_eq_true (by first | (with_reducible assumption) | assumption)
                                              have q1028 : x104_4 < (t1024.length : Int) := of_decide_eq_true (by first | (with_reducible assumption) | assumption)
                                              obtain ⟨ad1028, e1028, hx1028_0⟩ := Kd.at_int (Kd.V_reads' HO_102.out).2.2 x104_4 p1028 q1028
                                              cases e1028
                                              replace p1028 := eq_true p1028
                                              replace q1028 := eq_true q1028
                                              obtain ⟨Ao77, co77, eo77⟩ := Kd.R_slice HO_11.out
                                              subst eo77
                                              have p1029 : 0 ≤ ((rd t1024 x104_4) : Int) := of_decide_eq_true (by first | (with_reducible assumption) | assumption)
                                              have q1029 : (rd t1024 x104_4) < (x11_1.length : Int) := of_decide_eq_true (by first | (with_reducible assumption) | assumption)
                                              obtain ⟨ad1029, e1029, hx1029_0⟩ := Kd.at_bool (Kd.R_reads' HO_11.out).2.2 (rd t1024 x104_4) p1029 q1029
                                              cases e1029
                                              replace p1029 := eq_true p1029
                                              replace q1029 := eq_true q1029
                                              go_wp2
                                              go_roundg k4
                                              case measure => have := HK1.out; have := HK2.out; have := HK3.out; have := HK4.out; omega
                                              case rel => exact ⟨(rdOf false x11_1 (rd t1024 x104_4)), (wrap64 (x104_4 + 1)), (by first | rfl | (simp; done) | (simp [*]; done)), (by first | rfl | (simp; done) | (simp [*]; done)), H', ⟨by have := HK1.out; have := HK2.out; have := HK3.out; have := HK4.out; omega⟩, ⟨by (with_reducible repeat (first | apply Kd.R_alloc | apply Kd.R_drewN | apply Kd.R_drew)); exact HO_11.out⟩, ⟨by (with_reducible repeat (first | apply Kd.R_alloc | apply Kd.R_drewN | apply Kd.R_drew)); exact HO_12.out⟩, ⟨by (with_reducible repeat (first | apply Kd.V_alloc | apply Kd.V_drewN | apply Kd.V_drew)); exact HO_102.out⟩, ⟨by (with_reducible repeat (first | refine blk_drewN ?_ _ | refine blk_drew ?_ | refine blk_alloc ?_ _)); exact BK1001.out⟩, ⟨by repeat (first | (with_reducible first | exact HB.out | apply below_alloc | apply pw_below_drewN | apply below_drew1 | refine below_set ?_ GE1001.out) | exact HB.out)⟩⟩
                                            · rw [if_neg c76] at H
                                              exact absurd H (by simp)
                                          · rw [if_neg c75] at H
                                            exact absurd H (by simp)
                                      · rw [if_neg c73] at H
                                        exact absurd H (by simp)
                                    · rw [if_neg c72] at H
                                      exact absurd H (by simp)
                                  · rw [if_neg c71] at H
                                    have c71b0 : decide (x104_4 < (t1024.length : Int)) = false := decide_eq_false c71
                                    clear c71
                                    by_cases c78 : t1027 = 0
                                    · rw [if_pos c78] at H
                                      have c78b0 : (t1027 == 0) = true := beq_iff_eq.mpr c78
                                      have c78b1 : (t1027 != 0) = false := bne_eq_false_iff_eq.mpr c78
                                      clear c78
                                      by_cases c79 : 0 ≤ x93_3
                                      · rw [if_pos c79] at H
                                        have c79b0 : decide (0 ≤ x93_3) = true := decide_eq_true c79
                                        clear c79
                                        by_cases c80 : x93_3 < (x11_1.length : Int)
                                        · rw [if_pos c80] at H
                                          have c80b0 : decide (x93_3 < (x11_1.length : Int)) = true := decide_eq_true c80
                                          clear c80
                                          obtain ⟨bq81, hbq81⟩ : ∃ b_ : Bool, b_ = (rdOf false x11_1 x93_3) := ⟨_, rfl⟩
                                          replace H : (if bq81 = true then (flyoverlaw07_GrowRing.l2 k4 t1011 x11_1 x12_2 a0_0 (wrap64 (x93_3 + 1)) a0_0 l0_1) else (if x93_3 < (x12_2.length : Int) then (if (x20_4 != (rdOf false x12_2 x93_3)) = true then (some false) else (flyoverlaw07_GrowRing.l2 k4 t1011 x11_1 x12_2 a0_0 (wrap64 (x93_3 + 1)) a0_0 l0_1)) else (none))) = some r := by rw [← hbq81] at H; exact H
                                          have Nbq81 := Aside0.mk hbq81
                                          clear hbq81
                                          by_cases c82 : bq81 = true
                                          · subst c82
                                            have H1 : (flyoverlaw07_GrowRing.l2 k4 t1011 x11_1 x12_2 a0_0 (wrap64 (x93_3 + 1)) a0_0 l0_1) = some r := by rw [if_pos rfl] at H; exact H
                                            clear H
                                            have H := H1
                                            clear H1
                                            have H' := Aside0.mk H
                                            clear H
                                            obtain ⟨Ao83, co83, eo83⟩ := Kd.R_slice HO_11.out
                                            subst eo83
                                            have p1030 : 0 ≤ (x93_3 : Int) := of_decide_eq_true (by first | (with_reducible assumption) | assumption)
                                            have q1030 : x93_3 < (x11_1.length : Int) := of_decide_eq_true (by first | (with_reducible assumption) | assumption)
                                            obtain ⟨ad1030, e1030, hx1030_0⟩ := Kd.at_bool (Kd.R_reads' HO_11.out).2.2 x93_3 p1030 q1030
                                            (try rw [← Nbq81.out] at hx1030_0)
                                            cases e1030
                                            replace p1030 := eq_true p1030
                                            replace q1030 := eq_true q1030
                                            go_wp2
                                            go_roundg k4
                                            case measure => have := HK1.out; have := HK2.out; have := HK3.out; have := HK4.out; omega
                                            case rel => exact ⟨(wrap64 (x93_3 + 1)), (by first | rfl | (simp; done) | (simp [*]; done)), H', ⟨by have := HK1.out; have := HK2.out; have := HK3.out; have := HK4.out; omega⟩, ⟨by (with_reducible repeat (first | apply Kd.R_alloc | apply Kd.R_drewN | apply Kd.R_drew)); exact HO_11.out⟩, ⟨by (with_reducible repeat (first | apply Kd.R_alloc | apply Kd.R_drewN | apply Kd.R_drew)); exact HO_12.out⟩, ⟨by (with_reducible repeat (first | refine blk_drewN ?_ _ | refine blk_drew ?_ | refine blk_alloc ?_ _)); exact BK1001.out⟩, ⟨by repeat (first | (with_reducible first | exact HB.out | apply below_alloc | apply pw_below_drewN | apply below_drew1 | refine below_set ?_ GE1001.out) | exact HB.out)⟩⟩
                                          · replace c82 := Bool.eq_false_iff.mpr c82
                                            subst c82
                                            have H1 : (if x93_3 < (x12_2.length : Int) then (if (x20_4 != (rdOf false x12_2 x93_3)) = true then (some false) else (flyoverlaw07_GrowRing.l2 k4 t1011 x11_1 x12_2 a0_0 (wrap64 (x93_3 + 1)) a0_0 l0_1)) else (none)) = some r := by rw [if_neg (show ¬ (false = true) by decide)] at H; exact H
                                            clear H
                                            have H := H1
                                            clear H1
                                            by_cases c84 : x93_3 < (x12_2.length : Int)
                                            · rw [if_pos c84] at H
                                              have c84b0 : decide (x93_3 < (x12_2.length : Int)) = true := decide_eq_true c84
                                              clear c84
                                              by_cases c85 : (x20_4 != (rdOf false x12_2 x93_3)) = true
                                              · rw [if_pos c85] at H
                                                have c85b0 : (x20_4 != (rdOf false x12_2 x93_3)) = true := c85
                                                (try (have c85b1 : decide (x20_4 = (rdOf false x12_2 x93_3)) = false := by simpa using c85))
                                                (try (have c85b2 : (x20_4 == (rdOf false x12_2 x93_3)) = false := by simpa using c85))
                                                (try (have c85b3 : ¬ (x20_4 = (rdOf false x12_2 x93_3)) := by simpa using c85))
                                                clear c85
                                                obtain rfl := Option.some.inj H
                                                obtain ⟨Ao86, co86, eo86⟩ := Kd.R_slice HO_11.out
                                                subst eo86
                                                have p1030 : 0 ≤ (x93_3 : Int) := of_decide_eq_true (by first | (with_reducible assumption) | assumption)
                                                have q1030 : x93_3 < (x11_1.length : Int) := of_decide_eq_true (by first | (with_reducible assumption) | assumption)
                                                obtain ⟨ad1030, e1030, hx1030_0⟩ := Kd.at_bool (Kd.R_reads' HO_11.out).2.2 x93_3 p1030 q1030
                                                (try rw [← Nbq81.out] at hx1030_0)
                                                cases e1030
                                                replace p1030 := eq_true p1030
                                                replace q1030 := eq_true q1030
                                                obtain ⟨Ao87, co87, eo87⟩ := Kd.R_slice HO_12.out
                                                subst eo87
                                                have p1031 : 0 ≤ (x93_3 : Int) := of_decide_eq_true (by first | (with_reducible assumption) | assumption)
                                                have q1031 : x93_3 < (x12_2.length : Int) := of_decide_eq_true (by first | (with_reducible assumption) | assumption)
                                                obtain ⟨ad1031, e1031, hx1031_0⟩ := Kd.at_bool (Kd.R_reads' HO_12.out).2.2 x93_3 p1031 q1031
                                                (try rw [← Nbq81.out] at hx1031_0)
                                                cases e1031
                                                replace p1031 := eq_true p1031
                                                replace q1031 := eq_true q1031
                                                go_wp2
                                                go_ret
                                                exact ⟨by first | rfl | (simp [errW_none, errW_some] <;> rfl) | (simp [*, errW_none, errW_some] <;> rfl), by repeat (first | (with_reducible first | exact HB.out | apply below_alloc | apply pw_below_drewN | apply below_drew1 | refine below_set ?_ GE1001.out) | exact HB.out)⟩
                                              · rw [if_neg c85] at H
                                                have c85b0 : (x20_4 != (rdOf false x12_2 x93_3)) = false := by simpa using c85
                                                (try (have c85b1 : decide (x20_4 = (rdOf false x12_2 x93_3)) = true := by simpa using c85))
                                                (try (have c85b2 : (x20_4 == (rdOf false x12_2 x93_3)) = true := by simpa using c85))
                                                clear c85
                                                have H' := Aside0.mk H
                                                clear H
                                                obtain ⟨Ao88, co88, eo88⟩ := Kd.R_slice HO_11.out
                                                subst eo88
                                                have p1030 : 0 ≤ (x93_3 : Int) := of_decide_eq_true (by first | (with_reducible assumption) | assumption)
                                                have q1030 : x93_3 < (x11_1.length : Int) := of_decide_eq_true (by first | (with_reducible assumption) | assumption)
                                                obtain ⟨ad1030, e1030, hx1030_0⟩ := Kd.at_bool (Kd.R_reads' HO_11.out).2.2 x93_3 p1030 q1030
                                                (try rw [← Nbq81.out] at hx1030_0)
                                                cases e1030
                                                replace p1030 := eq_true p1030
                                                replace q1030 := eq_true q1030
                                                obtain ⟨Ao89, co89, eo89⟩ := Kd.R_slice HO_12.out
                                                subst eo89
                                                have p1031 : 0 ≤ (x93_3 : Int) := of_decide_eq_true (by first | (with_reducible assumption) | assumption)
                                                have q1031 : x93_3 < (x12_2.length : Int) := of_decide_eq_true (by first | (with_reducible assumption) | assumption)
                                                obtain ⟨ad1031, e1031, hx1031_0⟩ := Kd.at_bool (Kd.R_reads' HO_12.out).2.2 x93_3 p1031 q1031
                                                (try rw [← Nbq81.out] at hx1031_0)
                                                cases e1031
                                                replace p1031 := eq_true p1031
                                                replace q1031 := eq_true q1031
                                                go_wp2
                                                go_roundg k4
                                                case measure => have := HK1.out; have := HK2.out; have := HK3.out; have := HK4.out; omega
                                                case rel => exact ⟨(wrap64 (x93_3 + 1)), (by first | rfl | (simp; done) | (simp [*]; done)), H', ⟨by have := HK1.out; have := HK2.out; have := HK3.out; have := HK4.out; omega⟩, ⟨by (with_reducible repeat (first | apply Kd.R_alloc | apply Kd.R_drewN | apply Kd.R_drew)); exact HO_11.out⟩, ⟨by (with_reducible repeat (first | apply Kd.R_alloc | apply Kd.R_drewN | apply Kd.R_drew)); exact HO_12.out⟩, ⟨by (with_reducible repeat (first | refine blk_drewN ?_ _ | refine blk_drew ?_ | refine blk_alloc ?_ _)); exact BK1001.out⟩, ⟨by repeat (first | (with_reducible first | exact HB.out | apply below_alloc | apply pw_below_drewN | apply below_drew1 | refine below_set ?_ GE1001.out) | exact HB.out)⟩⟩
                                            · rw [if_neg c84] at H
                                              exact absurd H (by simp)
                                        · rw [if_neg c80] at H
                                          exact absurd H (by simp)
                                      · rw [if_neg c79] at H
                                        exact absurd H (by simp)
                                    · rw [if_neg c78] at H
                                      have c78b0 : (t1027 == 0) = false := beq_eq_false_iff_ne.mpr c78
                                      have c78b1 : (t1027 != 0) = true := bne_iff_ne.mpr c78
                                      obtain rfl := Option.some.inj H
                                      go_wp2
                                      go_ret
                                      exact ⟨by first | rfl | (simp [errW_none, errW_some] <;> rfl) | (simp [*, errW_none, errW_some] <;> rfl), by repeat (first | (with_reducible first | exact HB.out | apply below_alloc | apply pw_below_drewN | apply below_drew1 | refine below_set ?_ GE1001.out) | exact HB.out)⟩
                            · rw [if_neg c66] at H
                              have c66b0 : decide (x93_3 < a0_0) = false := decide_eq_false c66
                              clear c66
                              obtain rfl := Option.some.inj H
                              go_wp2
                              go_ret
                              exact ⟨by first | rfl | (simp [errW_none, errW_some] <;> rfl) | (simp [*, errW_none, errW_some] <;> rfl), by repeat (first | (with_reducible first | exact HB.out | apply below_alloc | apply pw_below_drewN | apply below_drew1 | refine below_set ?_ GE1001.out) | exact HB.out)⟩
          · rw [if_neg c16] at H
            exact absurd H (by simp)
        · rw [if_neg c15] at H
          exact absurd H (by simp)
      · rw [if_neg c13] at H
        have c13b0 : (t1007 == 0) = false := beq_eq_false_iff_ne.mpr c13
        have c13b1 : (t1007 != 0) = true := bne_iff_ne.mpr c13
        obtain rfl := Option.some.inj H
        go_enter Try.func4, Try.ntmps4
        go_wp2_with (first | ((with_reducible refine gate_dst (N := 3) rfl ?_); refine box_event ?hg (N := 3) ?hd (cs := #[.int .i64 a0_0, .slice A0_1 l0_1.length c0_1]) (t := 24) ?hr ?_; (case hd => rfl); (case hg => rfl); (case hr => first | (go_simp; done) | (go_simp; rfl)); intro gb1001 hg w90 hbox hb; have n0_ := Aside0.mk (below_step (by repeat (first | (with_reducible first | exact HB.out | apply below_alloc | apply pw_below_drewN | apply below_drew1) | exact HB.out)) hb); have n1_ := Aside0.mk (hbox); have n2_ := Aside0.mk ((by rw [hg]; exact (below_size (by repeat (first | (with_reducible first | exact HB.out | apply below_alloc | apply pw_below_drewN | apply below_drew1) | exact HB.out))) : w.heap.size ≤ gb1001)); have n3_ := Aside0.mk ((by rw [hg]; exact (below_size (by repeat (first | (with_reducible first | exact HB.out | apply below_alloc | apply pw_below_drewN | apply below_drew1) | exact HB.out))) : w.heap.size ≤ gb1001)); clear HB; have HB := n0_; have BK1001 := n1_; have GW1001 := n2_; have GE1001 := n3_; clear n0_ n1_ n2_ n3_; clear hb hbox hg) | ((with_reducible refine gate_callee (f := 7) rfl ?_); refine goesL_ (some 23) rfl rfl Try.func7 (by kernel_rfl) rfl #[] rfl (by (try simp only [List.map_toArray, List.map_cons, List.map_nil]); first | done | rfl | (simp only [List.length_drop, List.length_take]; rfl)) ?_; (with_reducible refine (flyoverlaw07_works.calls k  true _ A4.out).mono ?_); rintro e w91 ⟨rfl, hb⟩; refine ⟨_, rfl, ?_⟩; have n0_ := Aside0.mk (blk_below (g := gb1001) (o := .cells #[.int .i64 a0_0, .slice A0_1 l0_1.length c0_1] 24 (0, 0)) (by (with_reducible repeat (first | refine blk_drewN ?_ _ | refine blk_drew ?_ | refine blk_alloc ?_ _)); exact BK1001.out) hb); have n1_ := Aside0.mk (below_step (by repeat (first | (with_reducible first | exact HB.out | apply below_alloc | apply pw_below_drewN | apply below_drew1 | refine below_set ?_ GE1001.out) | exact HB.out)) hb); clear BK1001; clear HB; have BK1001 := n0_; have HB := n1_; clear n0_ n1_; (try clear hb); (try clear hb2); (try clear hk); (try clear hi); have hcz92_0 : w91.cell? ⟨gb1001, 0, none⟩ = some (.int .i64 a0_0) := (blk_cell BK1001.out 0).trans rfl; have hcz92_1 : w91.cell? ⟨gb1001, 1, none⟩ = some (.slice A0_1 l0_1.length c0_1) := (blk_cell BK1001.out 1).trans rfl; have hfz92_0 := blk_frozen BK1001.out 0; have hfz92_1 := blk_frozen BK1001.out 1) | ((with_reducible refine gate_callee (f := 6) rfl ?_); refine goesL_ (some 26) rfl rfl Try.func6 (by kernel_rfl) rfl #[.agg #[.int .i64 a0_0, .slice A0_1 l0_1.length c0_1]] rfl (by (try simp only [List.map_toArray, List.map_cons, List.map_nil]); first | done | rfl | (simp only [List.length_drop, List.length_take]; rfl)) ?_; (with_reducible refine (flyoverlaw07_large.calls a0_0 _ _ l0_1 false _ ?side1 ?side2 A6.out).mono ?_); (case side1 => repeat (first | exact (Kd.C_below HR0_1.out HB.out) | (with_reducible refine Kd.C_alloc ?_ _) | (with_reducible refine Kd.C_drewN ?_ _) | (with_reducible refine Kd.C_drew ?_))); (case side2 => exact HC0_1.out); rintro e w93 ⟨rfl, hb⟩; refine ⟨_, rfl, ?_⟩; have n0_ := Aside0.mk (blk_below (g := gb1001) (o := .cells #[.int .i64 a0_0, .slice A0_1 l0_1.length c0_1] 24 (0, 0)) (by (with_reducible repeat (first | refine blk_drewN ?_ _ | refine blk_drew ?_ | refine blk_alloc ?_ _)); exact BK1001.out) hb); have n1_ := Aside0.mk (below_step (by repeat (first | (with_reducible first | exact HB.out | apply below_alloc | apply pw_below_drewN | apply below_drew1 | refine below_set ?_ GE1001.out) | exact HB.out)) hb); clear BK1001; clear HB; have BK1001 := n0_; have HB := n1_; clear n0_ n1_; (try clear hb); (try clear hb2); (try clear hk); (try clear hi); have hcz94_0 : w93.cell? ⟨gb1001, 0, none⟩ = some (.int .i64 a0_0) := (blk_cell BK1001.out 0).trans rfl; have hcz94_1 : w93.cell? ⟨gb1001, 1, none⟩ = some (.slice A0_1 l0_1.length c0_1) := (blk_cell BK1001.out 1).trans rfl; have hfz94_0 := blk_frozen BK1001.out 0; have hfz94_1 := blk_frozen BK1001.out 1) | ((with_reducible refine gate_callee (f := 9) rfl ?_); refine goesL_ (some 31) rfl rfl Try.func9 (by kernel_rfl) rfl #[.agg #[.int .i64 a0_0, .slice A0_1 l0_1.length c0_1], .int .i64 a1, .int .i64 a2] rfl (by (try simp only [List.map_toArray, List.map_cons, List.map_nil]); first | done | rfl | (simp only [List.length_drop, List.length_take]; rfl)) ?_; (with_reducible refine (grow_Region.calls a0_0 _ _ l0_1 a1 a2 t1004 t1007 _ ?side1 ?side2 A12.out).mono ?_); (case side1 => repeat (first | exact (Kd.C_below HR0_1.out HB.out) | (with_reducible refine Kd.C_alloc ?_ _) | (with_reducible refine Kd.C_drewN ?_ _) | (with_reducible refine Kd.C_drew ?_))); (case side2 => exact HC0_1.out); rintro e w95 ⟨v1005, rfl, ho0, hb⟩; refine ⟨_, rfl, ?_⟩; have n0_ := Aside0.mk (Kd.R_lower ho0 (below_size (by repeat (first | (with_reducible first | exact HB.out | apply below_alloc | apply pw_below_drewN | apply below_drew1 | refine below_set ?_ GE1001.out) | exact HB.out)))); have n1_ := Aside0.mk (blk_below (g := gb1001) (o := .cells #[.int .i64 a0_0, .slice A0_1 l0_1.length c0_1] 24 (0, 0)) (by (with_reducible repeat (first | refine blk_drewN ?_ _ | refine blk_drew ?_ | refine blk_alloc ?_ _)); exact BK1001.out) hb); have n2_ := Aside0.mk (below_step (by repeat (first | (with_reducible first | exact HB.out | apply below_alloc | apply pw_below_drewN | apply below_drew1 | refine below_set ?_ GE1001.out) | exact HB.out)) hb); clear BK1001; clear HB; have HO1006 := n0_; have BK1001 := n1_; have HB := n2_; clear n0_ n1_ n2_; (try clear hb); (try clear hb2); (try clear hk); (try clear hi); (try clear ho0); obtain ⟨Ao96, co96, eo96⟩ := Kd.R_slice HO1006.out; subst eo96))
        go_ret
        exact ⟨by first | rfl | (simp [errW_none, errW_some] <;> rfl) | (simp [*, errW_none, errW_some] <;> rfl), by repeat (first | (with_reducible first | exact HB.out | apply below_alloc | apply pw_below_drewN | apply below_drew1 | refine below_set ?_ GE1001.out) | exact HB.out)⟩
  · replace c5 := Bool.eq_false_iff.mpr c5
    subst c5
    have H1 : (some false) = some r := by rw [if_neg (show ¬ (false = true) by decide)] at H; exact H
    clear H
    have H := H1
    clear H1
    obtain rfl := Option.some.inj H
    go_enter Try.func4, Try.ntmps4
    go_wp2_with (first | ((with_reducible refine gate_dst (N := 3) rfl ?_); refine box_event ?hg (N := 3) ?hd (cs := #[.int .i64 a0_0, .slice A0_1 l0_1.length c0_1]) (t := 24) ?hr ?_; (case hd => rfl); (case hg => rfl); (case hr => first | (go_simp; done) | (go_simp; rfl)); intro gb1001 hg w97 hbox hb; have n0_ := Aside0.mk (below_step (by repeat (first | (with_reducible first | exact HB.out | apply below_alloc | apply pw_below_drewN | apply below_drew1) | exact HB.out)) hb); have n1_ := Aside0.mk (hbox); have n2_ := Aside0.mk ((by rw [hg]; exact (below_size (by repeat (first | (with_reducible first | exact HB.out | apply below_alloc | apply pw_below_drewN | apply below_drew1) | exact HB.out))) : w.heap.size ≤ gb1001)); have n3_ := Aside0.mk ((by rw [hg]; exact (below_size (by repeat (first | (with_reducible first | exact HB.out | apply below_alloc | apply pw_below_drewN | apply below_drew1) | exact HB.out))) : w.heap.size ≤ gb1001)); clear HB; have HB := n0_; have BK1001 := n1_; have GW1001 := n2_; have GE1001 := n3_; clear n0_ n1_ n2_ n3_; clear hb hbox hg) | ((with_reducible refine gate_callee (f := 7) rfl ?_); refine goesL_ (some 23) rfl rfl Try.func7 (by kernel_rfl) rfl #[] rfl (by (try simp only [List.map_toArray, List.map_cons, List.map_nil]); first | done | rfl | (simp only [List.length_drop, List.length_take]; rfl)) ?_; (with_reducible refine (flyoverlaw07_works.calls k  false _ A4.out).mono ?_); rintro e w98 ⟨rfl, hb⟩; refine ⟨_, rfl, ?_⟩; have n0_ := Aside0.mk (blk_below (g := gb1001) (o := .cells #[.int .i64 a0_0, .slice A0_1 l0_1.length c0_1] 24 (0, 0)) (by (with_reducible repeat (first | refine blk_drewN ?_ _ | refine blk_drew ?_ | refine blk_alloc ?_ _)); exact BK1001.out) hb); have n1_ := Aside0.mk (below_step (by repeat (first | (with_reducible first | exact HB.out | apply below_alloc | apply pw_below_drewN | apply below_drew1 | refine below_set ?_ GE1001.out) | exact HB.out)) hb); clear BK1001; clear HB; have BK1001 := n0_; have HB := n1_; clear n0_ n1_; (try clear hb); (try clear hb2); (try clear hk); (try clear hi)))
    go_ret
    exact ⟨by first | rfl | (simp [errW_none, errW_some] <;> rfl) | (simp [*, errW_none, errW_some] <;> rfl), by repeat (first | (with_reducible first | exact HB.out | apply below_alloc | apply pw_below_drewN | apply below_drew1 | refine below_set ?_ GE1001.out) | exact HB.out)⟩

end Go.Proofs.Ytihaddejjgaepaa.G

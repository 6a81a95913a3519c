/- GrowRegions: the walk of the law. -/
import Derived.Test.YtihaddejjgaepaaHkept
import Derived.Test.YtihaddejjgaepaaLref07
import Derived.Test.YtihaddejjgaepaaLworks07
import Derived.Test.YtihaddejjgaepaaGFFlyoverlaw07Large
namespace Go.Proofs.Ytihaddejjgaepaa.G
set_option linter.unusedVariables false
set_option linter.unusedSimpArgs false
open Go.RowKit Go.Proofs.YtihaddejjgaepaaW.PrintWords Go.Proofs.YtihaddejjgaepaaW.PrintLast Go.Proofs.YtihaddejjgaepaaW.PrintMore

theorem sameInts_l0 (l : List Int) (hl : l.length ≤ 6000000000000) : ∀ (d j : Nat), j + d = l.length → flyoverbook_SameInts.l0 (d + 1) l l (j : Int) = some true := by
  intro d
  induction d with
  | zero => intro j hj; rw [flyoverbook_SameInts.l0, if_neg (by omega)]
  | succ d ih =>
    intro j hj
    have hw1 : wrap64 ((j : Int) + 1) = ((j + 1 : Nat) : Int) := by
      simp only [wrap64]
      omega
    rw [flyoverbook_SameInts.l0, if_pos (by omega), if_pos (by omega), if_pos (by omega), if_pos rfl, hw1]
    exact ih (j + 1) (by omega)
theorem sameInts_at (l : List Int) (hl : l.length ≤ 6000000000000) : flyoverbook_SameInts.f (l.length + 1) l l = some true := by
  unfold flyoverbook_SameInts.f
  rw [if_pos rfl]
  exact sameInts_l0 l hl l.length 0 (by omega)
theorem core_len {n : Int} {ar : List S44} {c m : Int} {l x : List Int} {e f : Int} (hr : grow_Region.f n ar c m = some (l, e)) (h : grow_Core.f n ar c m = some (x, f)) : x.length ≤ l.length := by
  unfold grow_Core.f at h
  rw [hr] at h
  simp only [Option.bind_some] at h
  split at h
  · split at h
    · split at h
      · unfold slices_Clone_int_int.f at h
        split at h
        · simp only [Option.bind_some, Option.some.injEq, Prod.mk.injEq] at h
          rw [← h.1]
          exact List.length_take_le' _ _
        · cases h
      · cases h
    · cases h
  · simp only [Option.some.injEq, Prod.mk.injEq] at h
    rw [← h.1]
    simp
theorem boxAt {w W : World} {B T : Nat} {x y : Value} (h : w.heap[B]? = some (.cells #[x, y] T (0, 0))) (hB : Below w.heap.size w W) : W.cell? ⟨B, 0, none⟩ = some x ∧ W.cell? ⟨B, 1, none⟩ = some y := by
  have := (hB.block _ (blk_lt h)).trans h
  exact ⟨hb_at this 0, hb_at this 1⟩
set_option maxRecDepth 100000 in
set_option maxHeartbeats 4000000 in
theorem growRegions_calls (n : Int) (A : Option Addr) (c : Nat) (ar : List S44) (a1 a2 : Int) (w : World) (hC : Kd.C k44 w A ar.length ar) (hc : ar.length ≤ c) (hwf : wfArcs ar) (hsz : ar.length * 24 ≤ 140737488351232) :
    Calls Try.prog 3 #[.agg #[.int .i64 n, .slice A ar.length c], .int .i64 a1, .int .i64 a2] w fun e w' => e = .returned (.bool true) ∧ Below w.heap.size w w' := by
  obtain ⟨kw, hkw⟩ := works07_at
  obtain ⟨b, hb⟩ : ∃ b, flyoverlaw07_large.f n ar = some b := by
    unfold flyoverlaw07_large.f
    split <;> exact ⟨_, rfl⟩
  obtain ⟨l, e, hreg⟩ := region_some (n := n) hwf a1 a2
  obtain ⟨kr, hkr⟩ := refRegion_at (n := n) hwf a1 a2
  obtain ⟨kc, ⟨x, f⟩, hkc, hcore⟩ := refCore_at (n := n) hwf a1 a2
  rw [hreg] at hkr
  have hll : l.length ≤ 1024 := by
    rcases region_at hreg with ⟨_, rfl⟩ | ⟨_, g, h1, _, rfl⟩
    · simp
    · exact regionG_len g a2 h1.1 h1.2
  have hxl : x.length ≤ 1024 := Nat.le_trans (core_len hreg hcore) hll
  have HS1 := Aside0.mk (sameInts_at l (by omega))
  have HS2 := Aside0.mk (sameInts_at x (by omega))
  obtain ⟨kk, hkk⟩ := keptM_at n ar (by omega)
  have hlend : flyoverbook_LendGraph.f n ar = some (0, []) := by
    unfold flyoverbook_LendGraph.f
    simp only [Option.bind_some, List.nil_append, List.length_nil]
    rw [if_pos (by omega), if_pos (by omega)]
  have HKW := Aside0.mk hkw
  have HREG := Aside0.mk hreg
  have HKR := Aside0.mk hkr
  have HKC := Aside0.mk hkc
  have HCORE := Aside0.mk hcore
  have HKK := Aside0.mk hkk
  have HLEND := Aside0.mk hlend
  clear hkw hreg hkr hkc hcore hkk hlend hll hxl
  obtain ⟨w2, hw2⟩ : ∃ w2, w.alloc (.cells #[.int .i64 n, .slice A ar.length c] 24) = w2 := ⟨_, rfl⟩
  have hb0 : w2.heap[w.heap.size]? = some (.cells #[.int .i64 n, .slice A ar.length c] 24 (0, 0)) := by
    rw [← hw2]; exact World.alloc_heap_new w _
  have HB2 : Aside0 (Below w.heap.size w w2) := ⟨by rw [← hw2]; exact below_alloc (Below.refl _ _) _⟩
  have HC2 : Aside0 (Kd.C k44 w2 A ar.length ar) := ⟨by rw [← hw2]; exact Kd.C_alloc hC _⟩
  have hq0 : w2.cell? ⟨w.heap.size, 0, none⟩ = some (.int .i64 n) := hb_at hb0 0
  have hq1 : w2.cell? ⟨w.heap.size, 1, none⟩ = some (.slice A ar.length c) := hb_at hb0 1
  have HB0 := Aside0.mk hb0
  have HW2 := Aside0.mk hw2
  clear hb0 hC
  go_enter Try.func3, Try.ntmps3
  go_wp2_with fail
  refine (flyoverlaw07_large.calls n A c ar b w2 HC2.out hc hb).mono ?_
  rintro e w3 ⟨rfl, hB3⟩
  have HB3 := Aside0.mk (HB2.out.trans (hB3.mono HB2.out.size))
  have hb03 := (hB3.block _ (blk_lt HB0.out)).trans HB0.out
  have HC3 := Aside0.mk (Kd.C_below HC2.out hB3)
  clear hB3 hq0 hq1 HB2 HC2 HB0 HW2 hw2
  cases b with
  | true =>
    go_wp2_with fail
    refine (flyoverlaw07_works.calls kw true _ HKW.out).mono ?_
    rintro e w4 ⟨rfl, hB4⟩
    go_wp2
    go_ret
    exact ⟨rfl, HB3.out.trans (hB4.mono HB3.out.size)⟩
  | false =>
    have hq0 : w3.cell? ⟨w.heap.size, 0, none⟩ = some (.int .i64 n) := hb_at hb03 0
    have hq1 : w3.cell? ⟨w.heap.size, 1, none⟩ = some (.slice A ar.length c) := hb_at hb03 1
    have HB03 := Aside0.mk hb03
    clear hb03
    go_wp2_with fail
    refine (flyoverbook_LendGraph.calls n A c ar 0 [] _ HC3.out hc HLEND.out).mono ?_
    rintro e w4 ⟨b4, cap4, rfl, hb4, hcap4, _, hC4, hB4⟩
    have HQ4 := Aside0.mk ((hB4.block _ (blk_lt HB03.out)).trans HB03.out)
    have HB4 := Aside0.mk (HB3.out.trans (hB4.mono HB3.out.size))
    have HC4 := Aside0.mk (Kd.C_below HC3.out hB4)
    have HL4 : Aside0 (Kd.C k44 w4 (some ⟨b4, 0, none⟩) (lentRow ar).length (lentRow ar)) := ⟨hC4⟩
    have HLO := Aside0.mk hcap4
    obtain ⟨w5, hw5⟩ : ∃ w5, w4.alloc (.cells #[.int .i64 n, .slice (some ⟨b4, 0, none⟩) ar.length cap4] 24) = w5 := ⟨_, rfl⟩
    have HI : Aside0 (w5.heap[w4.heap.size]? = some (.cells #[.int .i64 n, .slice (some ⟨b4, 0, none⟩) ar.length cap4] 24 (0, 0))) := ⟨by rw [← hw5]; exact World.alloc_heap_new w4 _⟩
    have HG : Aside0 (w5.heap[w.heap.size]? = some (.cells #[.int .i64 n, .slice A ar.length c] 24 (0, 0))) := ⟨by rw [← hw5]; exact (Below.heap_alloc _ _ _ (blk_lt HQ4.out)).trans HQ4.out⟩
    have HCA : Aside0 (Kd.C k44 w5 A ar.length ar) := ⟨by rw [← hw5]; exact Kd.C_alloc HC4.out _⟩
    have HCL : Aside0 (Kd.C k44 w5 (some ⟨b4, 0, none⟩) (lentRow ar).length (lentRow ar)) := ⟨by rw [← hw5]; exact Kd.C_alloc HL4.out _⟩
    have HBW : Aside0 (Below w.heap.size w w5) := ⟨by rw [← hw5]; exact below_alloc HB4.out _⟩
    have HWS : Aside0 (w.heap.size ≤ w5.heap.size) := ⟨HBW.out.size⟩
    clear hB4 hC4 hcap4 HB03 HB3 HC3 hq0 hq1 hb4 HQ4 HC4 HL4 HB4
    have HCP := Aside0.mk (lent_prefix HCL.out)
    have HCC : Aside0 (ar.length ≤ cap4) := ⟨Nat.le_trans (Nat.le_succ _) HLO.out⟩
    obtain ⟨hq0, hq1⟩ := boxAt HG.out (Below.refl _ _)
    obtain ⟨hi0, hi1⟩ := boxAt HI.out (Below.refl _ _)
    go_wp2_with fail
    refine (grow_Region.calls n (some ⟨b4, 0, none⟩) cap4 ar a1 a2 l e w5 HCP.out HCC.out HREG.out).mono ?_
    rintro e' w6 ⟨va, rfl, hRa, hB6⟩
    obtain ⟨Aa, ca, ea⟩ := Kd.R_slice hRa
    subst ea
    have HB6 := Aside0.mk hB6
    have HRA := Aside0.mk hRa
    clear hB6 hRa hq0 hq1 hi0 hi1 hw5
    obtain ⟨hq0, hq1⟩ := boxAt HG.out HB6.out
    obtain ⟨hi0, hi1⟩ := boxAt HI.out HB6.out
    go_wp2_with fail
    refine (flyoverref07_Region.calls kr n A c ar a1 a2 l e w6 (Kd.C_below HCA.out HB6.out) hc HKR.out).mono ?_
    rintro e' w7 ⟨vb, rfl, hRb, hB7⟩
    obtain ⟨Ab, cb, eb⟩ := Kd.R_slice hRb
    subst eb
    have HB7' := Aside0.mk (HB6.out.trans (hB7.mono HB6.out.size))
    have HRA7 := Aside0.mk (Kd.R_below HRA.out hB7)
    have HRB := Aside0.mk hRb
    clear hB7 hRb hq0 hq1 hi0 hi1 HRA HB6
    obtain ⟨hq0, hq1⟩ := boxAt HG.out HB7'.out
    obtain ⟨hi0, hi1⟩ := boxAt HI.out HB7'.out
    go_wp2_with fail
    refine (grow_Core.calls n (some ⟨b4, 0, none⟩) cap4 ar a1 a2 x f w7 (Kd.C_below HCP.out HB7'.out) HCC.out HCORE.out).mono ?_
    rintro e' w8 ⟨vx, rfl, hRx, hB8⟩
    obtain ⟨Ax, cx, ex⟩ := Kd.R_slice hRx
    subst ex
    have HB8 := Aside0.mk (HB7'.out.trans (hB8.mono HB7'.out.size))
    have HLT := Aside0.mk (Kd.R_lt HRA7.out)
    have HRA8 := Aside0.mk (Kd.R_below HRA7.out hB8)
    have HRB8 := Aside0.mk (Kd.R_below HRB.out hB8)
    have HRX := Aside0.mk hRx
    clear hB8 hRx hq0 hq1 hi0 hi1 HRA7 HRB
    obtain ⟨hq0, hq1⟩ := boxAt HG.out HB8.out
    obtain ⟨hi0, hi1⟩ := boxAt HI.out HB8.out
    go_wp2_with fail
    refine (flyoverref07_Core.calls kc n A c ar a1 a2 x f w8 (Kd.C_below HCA.out HB8.out) hc HKC.out).mono ?_
    rintro e' w9 ⟨vy, rfl, hRy, hB9⟩
    obtain ⟨Ay, cy, ey⟩ := Kd.R_slice hRy
    subst ey
    have HB9 := Aside0.mk (HB8.out.trans (hB9.mono HB8.out.size))
    have HRA9 := Aside0.mk (Kd.R_below HRA8.out hB9)
    have HRB9 := Aside0.mk (Kd.R_below HRB8.out hB9)
    have HRX9 := Aside0.mk (Kd.R_below HRX.out hB9)
    have HRY := Aside0.mk hRy
    clear hB9 hRy hq0 hq1 hi0 hi1 HRA8 HRB8 HRX HB8
    have HSa := Aside0.mk (Kd.R_reads' HRA9.out).2
    have HSb := Aside0.mk (Kd.R_reads' HRB9.out).2
    have HSx := Aside0.mk (Kd.R_reads' HRX9.out).2
    have HSy := Aside0.mk (Kd.R_reads' HRY.out).2
    go_wp2_with fail
    refine (flyoverbook_SameInts.calls _ Aa ca l Ab cb l true w9 HSa.out.2 HSa.out.1 HSb.out.2 HSb.out.1 HS1.out).mono ?_
    rintro e' w10 ⟨rfl, m10, rfl⟩
    go_wp2_with fail
    refine (flyoverbook_SameInts.calls _ Ax cx x Ay cy x true _ (Kd.C_drewN HSx.out.2 m10) HSx.out.1 (Kd.C_drewN HSy.out.2 m10) HSy.out.1 HS2.out).mono ?_
    rintro e' w11 ⟨rfl, m11, rfl⟩
    have HB11 := Aside0.mk (pw_below_drewN (pw_below_drewN HB9.out m10) m11)
    have HRA11 := Aside0.mk (Kd.R_drewN (Kd.R_drewN HRA9.out m10) m11)
    have HRX11 := Aside0.mk (Kd.R_drewN (Kd.R_drewN HRX9.out m10) m11)
    clear HSa HSb HSx HSy HRA9 HRB9 HRX9 HRY HB9
    generalize (w9.drewN m10).drewN m11 = w11 at *
    go_wp2_with fail
    refine (spoil_calls (-7) _ l w11 HRA11.out).mono ?_
    rintro e' w12 ⟨rfl, hg12⟩
    have HRX12 := Aside0.mk (Kd.R_grown2 HRX11.out rfl hg12 (fun k hk e => by
      have h1 := HLT.out k hk
      have h2 := Kd.R_base HRX11.out k e.symm
      omega))
    have HB12 := Aside0.mk (HB11.out.grown hg12 HB11.out.size (fun k hk => Kd.R_base HRA11.out k hk))
    clear hg12 HRA11 HRX11 HB11
    go_wp2_with fail
    refine (spoil_calls (-8) _ x w12 HRX12.out).mono ?_
    rintro e' w13 ⟨rfl, hg13⟩
    have HB13 := Aside0.mk (HB12.out.grown hg13 HB12.out.size (fun k hk => Nat.le_trans HB7'.out.size (Kd.R_base HRX12.out k hk)))
    clear hg13 HRX12 HB12
    obtain ⟨hq0, hq1⟩ := boxAt HG.out HB13.out
    obtain ⟨hi0, hi1⟩ := boxAt HI.out HB13.out
    go_wp2_with fail
    refine (flyoverbook_KeptGraph.callsM kk n (some ⟨b4, 0, none⟩) cap4 ar n A c ar true w13 (lentRow ar) (Kd.C_below HCP.out HB13.out) HCC.out (Kd.C_below HCA.out HB13.out) hc (Kd.C_below HCL.out HB13.out) (by rw [lentRow_length]; exact HLO.out) HKK.out).mono ?_
    rintro e' w14 ⟨rfl, hB14⟩
    have HB14 := Aside0.mk (HB13.out.trans (hB14.mono HB13.out.size))
    clear hB14 HB13 hq0 hq1 hi0 hi1
    go_wp2_with fail
    refine (flyoverlaw07_works.calls kw true w14 HKW.out).mono ?_
    rintro e' w15 ⟨rfl, hB15⟩
    go_wp2
    go_ret
    exact ⟨rfl, HBW.out.trans ((HB14.out.trans (hB15.mono HB14.out.size)).mono HWS.out)⟩
end Go.Proofs.Ytihaddejjgaepaa.G

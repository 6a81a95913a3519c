/- grow.Region and grow.Core: their contracts. -/
import Derived.Test.YtihaddejjgaepaaHrm
namespace Go.Proofs.Ytihaddejjgaepaa.G
set_option linter.unusedVariables false
set_option linter.unusedSimpArgs false
open Go.RowKit Go.Shelf Go.Proofs.YtihaddejjgaepaaW.PrintWords Go.Proofs.YtihaddejjgaepaaW.PrintLast Go.Proofs.YtihaddejjgaepaaW.PrintMore

attribute [local go_sem] Oper.semAt_some

/-- grow.Region's answer. -/
def regionG (n : Int) (ar : List S44) (c m : Int) : List Int := (aroundL (nbG n ar) (List.replicate n.toNat false) c).1.take m.toNat
def grow_Region.f (n : Int) (ar : List S44) (c m : Int) : Option (List Int × Int) :=
  if wfArcs ar then some (if (chk n ar).2 ≠ 0 then ([], (chk n ar).2) else if c < 0 ∨ n ≤ c then ([], 5) else if m < 1 ∨ 1024 < m then ([], 1) else (regionG n ar c m, 0)) else none

set_option maxRecDepth 100000 in
set_option maxHeartbeats 0 in
theorem grow_Region.calls (a0_0 : Int) (A0_1 : Option Addr) (c0_1 : Nat) (l0_1 : List S44) (a1 : Int) (a2 : Int) (r1 : List Int) (r2 : Int) (w : World) (hr0_1 : Kd.C k44 w A0_1 l0_1.length l0_1) (hc0_1 : l0_1.length ≤ c0_1) (h : grow_Region.f a0_0 l0_1 a1 a2 = some (r1, r2)) :
    Calls Try.prog 9 #[.agg #[.int .i64 a0_0, .slice A0_1 l0_1.length c0_1], .int .i64 a1, .int .i64 a2] w fun e w' => ∃ v0_ : Value, e = .returned (.tuple #[v0_, .int .i64 r2]) ∧ Kd.R (Kd.int .i64) 3 w' w.heap.size (fun _ => True) v0_ r1 ∧ Below w.heap.size w w' := by
  unfold grow_Region.f at h
  split at h
  case isFalse => cases h
  rename_i hwf
  obtain ⟨k, hck⟩ := graph_Check_at (n := a0_0) hwf
  replace h := Option.some.inj h
  obtain ⟨C1, E, hE⟩ : ∃ C1 E, chk a0_0 l0_1 = (C1, E) := ⟨_, _, rfl⟩
  rw [hE] at h hck
  have HE : Aside0 ((chk a0_0 l0_1).2 = E) := ⟨by rw [hE]⟩
  clear hE
  simp only at h
  refine (callsIn_wide (n := 9)).1 ?_
  refine callsIn_of_wp_marks Try.func9 rfl trivial ?_
  simp only [Try.ntmps9, List.size_toArray, List.length_cons, List.length_nil, Nat.reduceAdd, Nat.reduceSub, Array.replicate_succ, Array.replicate_zero, List.push_toArray, List.append_toArray, List.nil_append, List.cons_append]
  obtain ⟨w2, hw2⟩ : ∃ w2, (w.alloc (.cells #[.int .i64 a0_0, .slice A0_1 l0_1.length c0_1] 24)).alloc (.cells #[.int .i64 a2] 3) = w2 := ⟨_, rfl⟩
  have hb0 : w2.heap[w.heap.size]? = some (.cells #[.int .i64 a0_0, .slice A0_1 l0_1.length c0_1] 24 (0, 0)) := by
    rw [← hw2]; exact (Below.heap_alloc _ _ _ (by simp)).trans (World.alloc_heap_new w _)
  have hb1 : w2.heap[w.heap.size + 1]? = some (.cells #[.int .i64 a2] 3 (0, 0)) := by
    rw [← hw2]
    have := World.alloc_heap_new (w.alloc (.cells #[.int .i64 a0_0, .slice A0_1 l0_1.length c0_1] 24)) (.cells #[.int .i64 a2] 3)
    simpa using this
  have hB2 : Below w.heap.size w w2 := by rw [← hw2]; exact below_alloc (below_alloc (Below.refl _ _) _) _
  have hC2 : Kd.C k44 w2 A0_1 l0_1.length l0_1 := by rw [← hw2]; exact Kd.C_alloc (Kd.C_alloc hr0_1 _) _
  have hc0 : w2.cell? ⟨w.heap.size, 0, none⟩ = some (.int .i64 a0_0) := hb_at hb0 0
  have hc1 : w2.cell? ⟨w.heap.size, 1, none⟩ = some (.slice A0_1 l0_1.length c0_1) := hb_at hb0 1
  gi_wp2_with fail
  refine ⟨trivial, (callsIn_wide.2 (graph_Check.calls k a0_0 A0_1 c0_1 l0_1 _ _ w2 hC2 hc0_1 hck)).mono ?_⟩
  rintro e w3 ⟨rfl, hB3⟩
  have hb0' : w3.heap[w.heap.size]? = _ := (hB3.block _ (blk_lt hb0)).trans hb0
  have hb1' : w3.heap[w.heap.size + 1]? = _ := (hB3.block _ (blk_lt hb1)).trans hb1
  have hB3' : Below w.heap.size w w3 := hB2.trans (hB3.mono hB2.size)
  have hC3 : Kd.C k44 w3 A0_1 l0_1.length l0_1 := Kd.C_below hC2 hB3
  have hs3 : w.heap.size + 2 ≤ w3.heap.size := by
    have := blk_lt hb1'; omega
  have Hw2 := Aside0.mk hw2
  clear hb0 hb1 hB2 hC2 hB3 hw2 hr0_1 hc0 hc1
  have hc0 : w3.cell? ⟨w.heap.size, 0, none⟩ = some (.int .i64 a0_0) := hb_at hb0' 0
  have hc1 : w3.cell? ⟨w.heap.size, 1, none⟩ = some (.slice A0_1 l0_1.length c0_1) := hb_at hb0' 1
  have hc2 : w3.cell? ⟨w.heap.size + 1, 0, none⟩ = some (.int .i64 a2) := hb_at hb1' 0
  by_cases h0 : E = 0
  · subst h0
    have g := chk_ok.1 HE.out
    rw [if_neg (by simp)] at h
    by_cases h1 : a1 < 0
    · rw [if_pos (.inl h1)] at h
      obtain ⟨rfl, rfl⟩ := Prod.mk.inj h
      have hd1 : decide (a1 < 0) = true := decide_eq_true h1
      gi_wp2
      exact bodyPostM_two rfl ⟨_, rfl, Kd.R_nil _ _ _ _ _, hB3'⟩
    · by_cases h1' : a0_0 ≤ a1
      · rw [if_pos (.inr h1')] at h
        obtain ⟨rfl, rfl⟩ := Prod.mk.inj h
        have hd1 : decide (a1 < 0) = false := decide_eq_false h1
        gi_wp2
        exact bodyPostM_two rfl ⟨_, rfl, Kd.R_nil _ _ _ _ _, hB3'⟩
      · rw [if_neg (by omega)] at h
        have hd1 : decide (a1 < 0) = false := decide_eq_false h1
        have hd1' : decide (a0_0 ≤ a1) = false := decide_eq_false h1'
        by_cases h2 : a2 < 1
        · rw [if_pos (.inl h2)] at h
          obtain ⟨rfl, rfl⟩ := Prod.mk.inj h
          have hd2 : decide (a2 < 1) = true := decide_eq_true h2
          gi_wp2
          exact bodyPostM_two rfl ⟨_, rfl, Kd.R_nil _ _ _ _ _, hB3'⟩
        · have hd2 : decide (a2 < 1) = false := decide_eq_false h2
          by_cases h2' : 1024 < a2
          · rw [if_pos (.inr h2')] at h
            obtain ⟨rfl, rfl⟩ := Prod.mk.inj h
            gi_wp2
            exact bodyPostM_two rfl ⟨_, rfl, Kd.R_nil _ _ _ _ _, hB3'⟩
          · rw [if_neg (by omega)] at h
            obtain ⟨rfl, rfl⟩ := Prod.mk.inj h
            have hd2' : decide (1024 < a2) = false := decide_eq_false h2'
            have hmx : Try.prog.follows .mixedOrders = true := by kernel_rfl
            obtain ⟨kr, hraw⟩ := grow_sides_at g
            have hrl := rawSides_length a0_0 l0_1
            have hlen := rawSides_len g
            have hn1 := g.n1
            have hn2 := g.n2
            gi_wp2
            obtain ⟨w4, hw4⟩ : ∃ w4, w3.alloc (.cells #[.slice none 0 0] 28) = w4 := ⟨_, rfl⟩
            rw [hw4]
            have hs4 : w4.heap.size = w3.heap.size + 1 := by rw [← hw4]; simp
            have hC4 : Kd.C k44 w4.drew A0_1 l0_1.length l0_1 := by rw [← hw4]; exact Kd.C_drew (Kd.C_alloc hC3 _)
            have hb04 : w4.heap[w.heap.size]? = some (.cells #[.int .i64 a0_0, .slice A0_1 l0_1.length c0_1] 24 (0, 0)) := by rw [← hw4]; exact (Below.heap_alloc _ _ _ (by omega)).trans hb0'
            have hb14 : w4.heap[w.heap.size + 1]? = some (.cells #[.int .i64 a2] 3 (0, 0)) := by rw [← hw4]; exact (Below.heap_alloc _ _ _ (by omega)).trans hb1'
            have hbo4 : w4.heap[w3.heap.size]? = some (.cells #[.slice none 0 0] 28 (0, 0)) := by rw [← hw4]; exact World.alloc_heap_new w3 _
            have hc04 : w4.cell? ⟨w.heap.size, 0, none⟩ = some (.int .i64 a0_0) := hb_at hb04 0
            have hc14 : w4.cell? ⟨w.heap.size, 1, none⟩ = some (.slice A0_1 l0_1.length c0_1) := hb_at hb04 1
            have Hw4 := Aside0.mk hw4
            clear hw4
            refine wpIn_mono (Q := fun e a' W => match e with
              | .normal => ∃ bi bc bb r capr cb b5 e5 A u0_ u1_ u2_ u3_ u4_ u6_ u7_ u8_ u9_ u11_ u12_ u13_ u14_ u15_ u16_ u17_ u18_ u19_ u20_ u21_ u22_ u23_ u24_ u25_ u26_ u27_ u28_ u29_ u30_ u31_ u32_ u33_ u34_ u35_ u36_ u37_ u38_ u39_ u40_ u41_ u43_ u44_ u45_ u46_ u47_ u48_ u49_ u50_ u51_ u52_, a' = { tmps := #[u0_, u1_, u2_, u3_, u4_, .pointer (some ⟨w.heap.size + 1, 0, none⟩), u6_, u7_, u8_, u9_, .pointer (some ⟨w3.heap.size, 0, none⟩), u11_, u12_, u13_, u14_, u15_, u16_, u17_, u18_, u19_, u20_, u21_, u22_, u23_, u24_, u25_, u26_, u27_, u28_, u29_, u30_, u31_, u32_, u33_, u34_, u35_, u36_, u37_, u38_, u39_, u40_, u41_, .func (.func 36) #[] #[.pointer (some ⟨bi, 0, none⟩), .pointer (some ⟨bc, 0, none⟩), .pointer (some ⟨bb, 0, none⟩)], u43_, u44_, u45_, u46_, u47_, u48_, u49_, u50_, u51_, u52_], defers := [] } ∧ RM a0_0.toNat (nbG a0_0 l0_1) a1 w4 W bi bc bb r capr cb b5 e5 A
              | _ => False) ?_ ?_
            · obtain ⟨fm, hfm⟩ := make_bools a0_0 (by omega) (by omega)
              have hmk := fun W => (hfm W).1
              have hBm : Below w4.drew.heap.size w4.drew (fm w4.drew) := below_grown (hfm _).2.2
              have hCm : Kd.C k44 (fm w4.drew) A0_1 l0_1.length l0_1 := Kd.C_below hC4 hBm
              have hc0m : (fm w4.drew).cell? ⟨w.heap.size, 0, none⟩ = some (.int .i64 a0_0) := (World.cell?_of_block (hBm.block w.heap.size (by simp; omega))).trans hc04
              have hc1m : (fm w4.drew).cell? ⟨w.heap.size, 1, none⟩ = some (.slice A0_1 l0_1.length c0_1) := (World.cell?_of_block (hBm.block w.heap.size (by simp; omega))).trans hc14
              have hsm : w.heap.size < (fm w4.drew).heap.size := Nat.lt_of_lt_of_le (by simp; omega) (hfm _).2.2.size
              have hs4' : w.heap.size < w4.drew.heap.size := by simp; omega
              have HFM := Aside0.mk (fun W => (hfm W).2)
              clear hfm
              have HCS := Aside0.mk (fun n => (callsIn_wide (n := n)).2 (grow_sides.calls kr a0_0 A0_1 c0_1 l0_1 _ _ hC4 hc0_1 (fun l hl => by have := hlen l hl; omega) (by rw [hrl]; omega) hraw))
              have HCM := Aside0.mk (fun n => (callsIn_wide (n := n)).2 (grow_sides.calls kr a0_0 A0_1 c0_1 l0_1 _ _ hCm hc0_1 (fun l hl => by have := hlen l hl; omega) (by rw [hrl]; omega) hraw))
              have HL4 := Aside0.mk hs4
              have HLM := Aside0.mk hsm
              clear hC4 hCm hraw hlen hrl hck hsm hBm
              gi_region_with_o (first
                | (refine ⟨trivial, ?_⟩; with_reducible refine (HCS.out _).mono ?_; rintro e w5 ⟨v5, rfl, hS5, hB5⟩; obtain ⟨A5, cb5, e5⟩ := Kd.S_slice hS5; subst e5; have HS5 := Aside0.mk hS5; clear hS5; have hc05 : w5.cell? ⟨w.heap.size, 0, none⟩ = some (.int .i64 a0_0) := (World.cell?_of_block (hB5.block w.heap.size hs4')).trans hc04)
                | (refine ⟨trivial, ?_⟩; with_reducible refine (HCM.out _).mono ?_; rintro e w5 ⟨v5, rfl, hS5, hB5⟩; obtain ⟨A5, cb5, e5⟩ := Kd.S_slice hS5; subst e5; have HS5 := Aside0.mk hS5; clear hS5; have hc05 : w5.cell? ⟨w.heap.size, 0, none⟩ = some (.int .i64 a0_0) := (World.cell?_of_block (hB5.block w.heap.size HLM.out)).trans hc0m)
                | (refine ⟨trivial, ?_⟩; with_reducible refine (grow_around.calls _ _ _ _ _ _ _ _).mono ?_; rintro e w6 ⟨rfl, rfl⟩))
              all_goals first
                | exact ⟨_, _, _, _, _, _, _, _, _, _, _, _, _, _, _, _, _, _, _, _, _, _, _, _, _, _, _, _, _, _, _, _, _, _, _, _, _, _, _, _, _, _, _, _, _, _, _, _, _, _, _, _, _, _, _, _, _, _, _, rfl, rm_A' (by simp [nbG]) rfl HS5.out hB5 (HFM.out _).1 (HFM.out _).2⟩
                | exact ⟨_, _, _, _, _, _, _, _, _, _, _, _, _, _, _, _, _, _, _, _, _, _, _, _, _, _, _, _, _, _, _, _, _, _, _, _, _, _, _, _, _, _, _, _, _, _, _, _, _, _, _, _, _, _, _, _, _, _, _, rfl, rm_B' (by simp [nbG]) HL4.out.symm (HFM.out _).1 (HFM.out _).2 HS5.out hB5⟩
            · rintro e a' W hmid
              cases e with
              | normal => ?_
              | _ => exact hmid.elim
              obtain ⟨bi, bc, bb, r, capr, cb, b5, e5, A, u0_, u1_, u2_, u3_, u4_, u6_, u7_, u8_, u9_, u11_, u12_, u13_, u14_, u15_, u16_, u17_, u18_, u19_, u20_, u21_, u22_, u23_, u24_, u25_, u26_, u27_, u28_, u29_, u30_, u31_, u32_, u33_, u34_, u35_, u36_, u37_, u38_, u39_, u40_, u41_, u43_, u44_, u45_, u46_, u47_, u48_, u49_, u50_, u51_, u52_, rfl, HRM⟩ := hmid
              have hl' : (List.replicate a0_0.toNat false).length = a0_0.toNat := by simp
              have hbW : W.heap[w3.heap.size]? = some (.cells #[.slice none 0 0] 28 (0, 0)) := (HRM.below.block _ (by omega)).trans hbo4
              have hBox : Boxed W w3.heap.size 28 (.slice none 0 0) := hbW
              have hnot : ∀ k, ¬ OutRow w3.heap.size W k := fun k h => by
                have := (OutIs.row (n0 := 0) hBox k).1 h
                cases this
              have hrb : w4.heap.size ≤ r := Kd.R_base HRM.row r rfl
              obtain ⟨hlo1, hlo2, hlo3, hlo4, hlo5⟩ := HRM.lo
              obtain ⟨hrs1, hrs2⟩ := HRM.rsep
              have hseq := around_seq (9 - 1) (by omega) w3.heap.size r bi bc bb capr cb w4.heap.size (List.replicate a0_0.toNat false) (nbG a0_0 l0_1) A a1 (fun k => b5 ≤ k ∧ k < e5 ∧ ∃ cs e fr, W.heap[k]? = some (.cells cs e fr)) W
                (by rw [hl']; exact HRM.ci) HRM.cc HRM.cb HRM.nbs (fun k hk => hk.2.2) HRM.list ⟨by omega, fun k h => (hnot k h).elim⟩ (by rw [hl']; exact HRM.row) (fun k hk => ⟨by rcases hk with h | h | h | h | h <;> first | omega | (have := h.1; omega), hnot k⟩)
                (fun k hk => by rcases hk with h | h | h | h <;> first | omega | (have := h.1; have := h.2.1; omega)) h1 (by rw [hl']; omega) (by rw [hl', nbG_length]) (by rw [hl']; omega) (by rw [hl']; exact fun row hrow => ⟨Nat.le_trans (nbG_rows g row hrow).1 (by omega), fun u hu => by have := (nbG_rows g row hrow).2 u hu; omega⟩)
              have HSEQ := Aside0.mk hseq
              have hWs : w3.heap.size + 1 ≤ W.heap.size ∧ r < W.heap.size := by omega
              have HLO := Aside0.mk (⟨hlo3, hlo4⟩ : bc = bb + 1 ∧ bi = bb + 2)
              clear hseq hlo3 hlo4 hl'
              gi_wp2
              refine wpIn_rangeR (gf := 36) (lb := #[.pointer (some ⟨bi, 0, none⟩), .pointer (some ⟨bc, 0, none⟩), .pointer (some ⟨bb, 0, none⟩)]) (o := w3.heap.size) (r := r) rfl (enters_of Try.func36 (by kernel_rfl) rfl) rfl HSEQ.out ?ho ?hr ?hFin
                (fun pre W' => OutIs w3.heap.size w3.heap.size W' pre ∧ Below w3.heap.size w3 W' ∧ pre.length < a2.toNat)
                (fun c pre W' => c = .exit 1 ∧ OutIs w3.heap.size w3.heap.size W' pre ∧ Below w3.heap.size w3 W' ∧ pre.length = a2.toNat)
                ?hI ?hIx ?h0 (fun x => { tmps := #[u0_, u1_, u2_, u3_, u4_, .pointer (some ⟨w.heap.size + 1, 0, none⟩), u6_, u7_, u8_, u9_, .pointer (some ⟨w3.heap.size, 0, none⟩), .int .i64 x, u12_, u13_, u14_, u15_, u16_, u17_, u18_, u19_, u20_, u21_, u22_, u23_, u24_, u25_, u26_, u27_, u28_, u29_, u30_, u31_, u32_, u33_, u34_, u35_, u36_, u37_, u38_, u39_, u40_, u41_, .func (.func 36) #[] #[.pointer (some ⟨bi, 0, none⟩), .pointer (some ⟨bc, 0, none⟩), .pointer (some ⟨bb, 0, none⟩)], .int .i64 x, u44_, u45_, u46_, u47_, u48_, u49_, u50_, u51_, u52_], defers := [] }) ?assign ?body ?done ?stop
              case ho => omega
              case hr => omega
              case hFin =>
                intro W' l x x' hF hl hx
                refine Kd.R_mono (Kd.R_step (Kd.R_tight rfl hF) (fun k hk hlt => World.putObj_heap_other (fun e => ?_))) (fun _ _ => trivial)
                have hk' : r = k := (by simpa [Value.ownBlock] using hk : k = r).symm
                obtain ⟨cells, hc⟩ := Kd.R_typed hF r rfl
                rw [hk', e, hl] at hc
                cases hc
                cases hx
              case hI =>
                rintro s A B row ⟨h1, h2, h3⟩ hg hrow
                refine ⟨h1.abide hg (fun k e => (hrow k e).2), h2.grown hg h2.size (fun k e => ?_), h3⟩
                rcases (hrow k e).1 with h | h <;> omega
              case hIx =>
                rintro c s A B row ⟨h0, h1, h2, h3⟩ hg hrow
                refine ⟨h0, h1.abide hg (fun k e => (hrow k e).2), h2.grown hg h2.size (fun k e => ?_), h3⟩
                rcases (hrow k e).1 with h | h <;> omega
              case h0 =>
                refine ⟨⟨_, hBox, Kd.R_nil _ _ _ _ _⟩, ?_, by simp; omega⟩
                refine Below.trans (?_ : Below w3.heap.size w3 w4) (HRM.below.mono (by omega))
                rw [← Hw4.out]
                exact below_alloc (Below.refl _ _) _
              case assign =>
                intro l x W' K hK
                gi_wp2
                exact hK
              case body =>
                rintro l pre x W' ⟨⟨v, hv, hR⟩, hB, hlen⟩ hpre
                obtain ⟨A8, c8, e8⟩ := Kd.R_slice hR
                subst e8
                have hcv := hv.cell
                have hfv := hv.frozen
                have hsz : w3.heap.size ≤ W'.heap.size := hB.size
                obtain ⟨v1, w1, hrun, hR1, hg1, hat1⟩ := append_int_run x hR hsz (by omega)
                obtain ⟨hb1, hO1, hK1, hk1, hB1⟩ := out_step hv hR hsz (Nat.le_refl _) hR1 hg1 hat1
                obtain ⟨A9, c9, e9⟩ := Kd.R_slice hR1
                subst e9
                have hc1 := hb1.cell
                have hf1 := hb1.frozen
                have hL : (pre ++ [x]).length = pre.length + 1 := by simp
                rw [hL] at hO1 hK1 hk1 hB1 hR1 hrun
                have hBn := hB.trans hB1
                have hm := hb_at ((hBn.block (w.heap.size + 1) (by omega)).trans hb1') 0
                simp only [List.getElem?_toArray, List.getElem?_cons_zero] at hm
                have HRUN := Aside0.mk hrun
                have HR1 := Aside0.mk hR1
                have HBN := Aside0.mk hBn
                clear hBn
                have HB1 := Aside0.mk hB1
                clear hrun hR1 hg1 hat1 hR hB1 hL
                gi_wp2_with (refine wpListIn_at_append rfl ?_)
                refine ⟨?_⟩
                refine wpListIn_append_run (by rfl) (.tmp 44) (.tmp 46) 28 (by rfl) _ (.slice (some ⟨W'.heap.size, 0, none⟩) 1 1) (by rfl) (by rfl) HRUN.out ?_
                have HP := Aside0.mk hlen
                by_cases hx : (pre.length : Int) + 1 = a2
                · have hx1 : pre.length + 1 = a2.toNat := by omega
                  have HX := Aside0.mk hx1
                  have hxd : ((pre.length : Int) + 1 == a2) = true := beq_iff_eq.2 hx
                  clear hx hx1 hlen
                  gi_wp2
                  exact ⟨hK1.from _, rfl, hO1, HBN.out, by rw [List.length_append, List.length_singleton]; exact HX.out⟩
                · have hx1 : pre.length + 1 < a2.toNat := by omega
                  have HX := Aside0.mk hx1
                  have hxd : ((pre.length : Int) + 1 == a2) = false := beq_eq_false_iff_ne.2 hx
                  clear hx hx1 hlen
                  gi_wp2
                  exact ⟨⟨hK1.from _, hk1⟩, hO1, HBN.out, by rw [List.length_append, List.length_singleton]; exact HX.out⟩
              case done =>
                rintro D W' hD ⟨⟨v, hv, hR⟩, hB, hlen⟩ _ hDef
                obtain ⟨A8, c8, e8⟩ := Kd.R_slice hR
                subst e8
                have hcv := hv.cell
                have Hlen := Aside0.mk hlen
                have HDef := Aside0.mk hDef
                have HR := Aside0.mk hR
                clear hlen hDef hR
                gi_wp2
                obtain ⟨hRe, hBe⟩ := marked_end (w := w) (.deferred none) HR.out (by omega) HDef.out (by omega) (hB3'.trans (hB.mono (by omega)))
                refine bodyPostM_two_marked rfl HDef.out ⟨_, rfl, ?_, hBe⟩
                have e : regionG a0_0 l0_1 a1 a2 = (aroundL (nbG a0_0 l0_1) (List.replicate a0_0.toNat false) a1).1 := by
                  unfold regionG
                  exact List.take_of_length_le (Nat.le_of_lt Hlen.out)
                rw [e]
                exact hRe
              case stop =>
                rintro D c pre W' hD hpre ⟨rfl, ⟨v, hv, hR⟩, hB, hlen⟩ hDef
                obtain ⟨A8, c8, e8⟩ := Kd.R_slice hR
                subst e8
                have hcv := hv.cell
                have Hlen := Aside0.mk hlen
                have HDef := Aside0.mk hDef
                have HR := Aside0.mk hR
                clear hlen hDef hR
                gi_wp2
                obtain ⟨hRe, hBe⟩ := marked_end (w := w) (.deferred none) HR.out (by omega) HDef.out (by omega) (hB3'.trans (hB.mono (by omega)))
                refine bodyPostM_two_marked rfl HDef.out ⟨_, rfl, ?_, hBe⟩
                have e : regionG a0_0 l0_1 a1 a2 = pre := by
                  unfold regionG
                  rw [← Hlen.out]
                  exact (List.prefix_iff_eq_take.1 hpre).symm
                rw [e]
                exact hRe
  · rw [if_pos h0] at h
    have hd : decide (E = 0) = false := by simpa using h0
    obtain ⟨rfl, rfl⟩ := Prod.mk.inj h
    gi_wp2
    exact bodyPostM_two rfl ⟨_, rfl, Kd.R_nil _ _ _ _ _, hB3'⟩
end Go.Proofs.Ytihaddejjgaepaa.G

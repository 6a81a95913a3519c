/- The reference's regions are the program's. -/
import Derived.Test.YtihaddejjgaepaaLref03
import Derived.Test.YtihaddejjgaepaaGFFlyoverref07Core
namespace Go.Proofs.Ytihaddejjgaepaa.G
set_option linter.unusedVariables false
set_option linter.unusedSimpArgs false
open Go.RowKit Go.Proofs.YtihaddejjgaepaaW.PrintWords Go.Proofs.YtihaddejjgaepaaW.PrintLast Go.Proofs.YtihaddejjgaepaaW.PrintMore

theorem addNb_pre (us : List Int) (ins : List Bool) (q : List Int) : ∀ pre : List Int, addNb ins (pre ++ q) us = ((addNb ins q us).1, pre ++ (addNb ins q us).2)
  | [] => rfl
  | v :: pre => by rw [List.cons_append, addNb_cons, addNb_pre us ins q pre]; rfl
theorem refAround_l1 {n : Int} {ar : List S44} (us : List Int) (hus : ∀ u ∈ us, 0 ≤ u ∧ u < n) (hul : us.length ≤ 16384) (i : Int) (r : Option (List Int)) : ∀ (d j : Nat) (ins : List Bool) (out : List Int), j + d = us.length → ins.length = n.toNat → outs ins + out.length ≤ 1024 →
    ∀ kn, flyoverref07_Around.l0 kn (addNb ins out (us.drop j)).1 (addNb ins out (us.drop j)).2 (wrap64 (i + 1)) n ar = r → flyoverref07_Around.l1 (kn + d + 1) ins out i us (j : Int) n ar = r := by
  intro d
  induction d with
  | zero =>
    intro j ins out hj hin ho kn hk
    rw [List.drop_of_length_le (by omega)] at hk
    rw [show kn + 0 + 1 = kn + 1 from rfl, flyoverref07_Around.l1, if_neg (by omega)]
    exact hk
  | succ d ih =>
    intro j ins out hj hin ho kn hk
    have hjl : j < us.length := by omega
    have hu := hus _ (List.getElem_mem hjl)
    have hw1 : wrap64 ((j : Int) + 1) = ((j + 1 : Nat) : Int) := by
      simp only [wrap64]
      omega
    have e1 : rdOf false ins us[j] = isIn ins us[j] := rfl
    rw [List.drop_eq_getElem_cons hjl] at hk
    simp only [addNb] at hk
    rw [show kn + (d + 1) + 1 = (kn + d + 1) + 1 by omega, flyoverref07_Around.l1, if_pos (by omega), if_pos (by omega), rd_at us j hjl, if_pos (by omega), if_pos (by omega), e1, hw1]
    cases hb : isIn ins us[j] with
    | true =>
      rw [hb, if_pos rfl] at hk
      rw [if_pos rfl]
      exact ih (j + 1) ins out (by omega) hin ho kn hk
    | false =>
      rw [hb, if_neg (by simp)] at hk
      rw [if_neg (by simp), if_pos (by omega)]
      refine ih (j + 1) _ _ (by omega) (by simp [hin]) ?_ kn hk
      have hlt : us[j].toNat < ins.length := by omega
      have hf : ins[us[j].toNat] = false := by
        have : isIn ins us[j] = ins[us[j].toNat] := by simp [isIn, hlt]
        rw [← this, hb]
      have := outs_set ins us[j].toNat hlt hf
      simp only [List.length_append, List.length_singleton]
      omega
section
variable {n : Int} {ar : List S44} (g : GOk n ar)
include g
theorem refAround_l0 : ∀ (m : Nat) (ins : List Bool) (out : List Int) (i : Nat), i ≤ out.length → ins.length = n.toNat → (∀ u ∈ out, 0 ≤ u ∧ u < n) → outs ins + out.length ≤ 1024 → outs ins + (out.length - i) ≤ m →
    ∃ k, flyoverref07_Around.l0 k ins out (i : Int) n ar = some (out.take i ++ (arnd (nbG n ar) m ins (out.drop i)).1) := by
  intro m
  induction m with
  | zero =>
    intro ins out i hi hin hr ho hm
    refine ⟨1, ?_⟩
    rw [flyoverref07_Around.l0, if_neg (by omega), List.take_of_length_le (by omega)]
    simp [arnd]
  | succ m ih =>
    intro ins out i hi hin hr ho hm
    by_cases hil : i < out.length
    · have hv := hr _ (List.getElem_mem hil)
      have hw1 : wrap64 ((i : Int) + 1) = ((i + 1 : Nat) : Int) := by
        simp only [wrap64]
        omega
      obtain ⟨s, hnear, hs, hadj⟩ := refNear_at g hv.1 hv.2
      have hrow := trues_row g hv.1 hv.2 hs hadj
      have hn1 := g.n1
      have hn2 := g.n2
      have hall := refAll_at s (by omega)
      rw [hrow] at hall
      have hrange : ∀ u ∈ (nbG n ar).getD out[i].toNat [], 0 ≤ u ∧ u < n := fun u hu => by
        have := nbG_range g out[i] u hu
        omega
      have hrl : ((nbG n ar).getD out[i].toNat []).length ≤ 16384 := by
        rw [List.getD_eq_getElem?_getD]
        cases h : (nbG n ar)[out[i].toNat]? with
        | none => simp
        | some row => exact (nbG_rows g row (List.mem_of_getElem? h)).1
      rw [List.drop_eq_getElem_cons hil]
      simp only [arnd]
      rw [nbAt_nbG]
      generalize (nbG n ar).getD out[i].toNat [] = row at *
      have hsplit : out = (out.take i ++ [out[i]]) ++ out.drop (i + 1) := by
        rw [List.append_assoc, List.singleton_append, ← List.drop_eq_getElem_cons hil, List.take_append_drop]
      have hpre := addNb_pre row ins (out.drop (i + 1)) (out.take i ++ [out[i]])
      rw [← hsplit] at hpre
      have hlen1 : (out.take i ++ [out[i]]).length = i + 1 := by rw [List.length_append, List.length_take, List.length_singleton]; omega
      have ho2 := addNb_outs row ins out (fun u hu => by have := hrange u hu; omega)
      have hN2 := addNb_length row ins out
      have hr2 := addNb_range row n.toNat ins out (fun u hu => by have := hrange u hu; omega) (fun u hu => by have := hr u hu; omega)
      rw [hpre] at ho2 hN2 hr2
      simp only at ho2 hN2 hr2
      have hlen2 : (out.take i ++ [out[i]] ++ (addNb ins (out.drop (i + 1)) row).2).length = i + 1 + (addNb ins (out.drop (i + 1)) row).2.length := by rw [List.length_append, hlen1]
      have ho3 := addNb_outs row ins (out.drop (i + 1)) (fun u hu => by have := hrange u hu; omega)
      rw [List.length_drop] at ho3
      obtain ⟨k, hk⟩ := ih (addNb ins (out.drop (i + 1)) row).1 (out.take i ++ [out[i]] ++ (addNb ins (out.drop (i + 1)) row).2) (i + 1) (by rw [hlen2]; omega) (by rw [hN2]; exact hin)
        (fun u hu => by have := hr2 u hu; omega) (by rw [ho2]; exact ho) (by rw [hlen2]; omega)
      have ht : (out.take i ++ [out[i]] ++ (addNb ins (out.drop (i + 1)) row).2).take (i + 1) = out.take i ++ [out[i]] := by
        rw [List.take_append_of_le_length (by rw [hlen1]; exact Nat.le_refl _), List.take_of_length_le (by rw [hlen1]; exact Nat.le_refl _)]
      have hd : (out.take i ++ [out[i]] ++ (addNb ins (out.drop (i + 1)) row).2).drop (i + 1) = (addNb ins (out.drop (i + 1)) row).2 := by
        rw [List.drop_append_of_le_length (by rw [hlen1]; exact Nat.le_refl _), List.drop_of_length_le (by rw [hlen1]; exact Nat.le_refl _), List.nil_append]
      rw [ht, hd] at hk
      clear hsplit ih
      have hl1 := refAround_l1 (n := n) (ar := ar) row hrange hrl (i : Int) _ row.length 0 ins out (by omega) hin ho k (Eq.trans (by rw [List.drop_zero, hpre, hw1]) hk)
      clear hr2 ho2 hN2 ho3 hlen2 ht hd hpre hk hrange hr hadj hrow
      obtain ⟨K, q1, q2, q3⟩ : ∃ K, ar.length + 1 ≤ K ∧ s.length + 1 ≤ K ∧ k + row.length + 1 ≤ K := ⟨(ar.length + 1) + (s.length + 1) + (k + row.length + 1), by omega, by omega, by omega⟩
      have e1 := at_rounds (flyoverref03_Near.mono n ar out[i]) q1 hnear
      have e2 := at_rounds (flyoverref03_All.mono s) q2 hall
      have e3 := at_rounds (fun k => (flyoverref07_Around.mono_l k).2 _ _ _ _ _ _ _) q3 hl1
      refine ⟨K + 1, ?_⟩
      have ea : (0 : Int) ≤ (i : Int) := by omega
      have eb : (i : Int) < (out.length : Int) := by omega
      rw [flyoverref07_Around.l0, if_pos eb, if_pos ea, rd_at out i hil, e1]
      simp only [Option.bind_some]
      rw [e2]
      simp only [Option.bind_some]
      refine e3.trans ?_
      rw [List.append_assoc, List.singleton_append]
    · refine ⟨1, ?_⟩
      rw [flyoverref07_Around.l0, if_neg (by omega), List.take_of_length_le (by omega), List.drop_of_length_le (by omega), arnd_nil]
      simp
theorem refAround_at {c : Int} (h0 : 0 ≤ c) (h1 : c < n) : ∃ k, flyoverref07_Around.f k n ar c = some (aroundL (nbG n ar) (List.replicate n.toNat false) c).1 := by
  have hn1 := g.n1
  have hn2 := g.n2
  have hs : ((List.replicate n.toNat false).set c.toNat true).length = n.toNat := by simp
  have hf : (List.replicate n.toNat false)[c.toNat]'(by simp; omega) = false := by simp
  have ho := outs_set (List.replicate n.toNat false) c.toNat (by simp; omega) hf
  have hor : outs (List.replicate n.toNat false) ≤ n.toNat := by
    unfold outs
    exact Nat.le_trans List.countP_le_length (by simp)
  obtain ⟨k, hk⟩ := refAround_l0 g (outs ((List.replicate n.toNat false).set c.toNat true) + 1) _ [c] 0 (by simp) hs (by simpa using ⟨h0, h1⟩) (by simp; omega) (by simp)
  refine ⟨k, ?_⟩
  unfold flyoverref07_Around.f
  rw [if_pos (by omega), if_pos (by omega)]
  simp only [Option.bind_some]
  rw [if_pos (by omega), if_pos (by simp; omega)]
  unfold aroundL
  simpa using hk
end
theorem refRegion_at {n : Int} {ar : List S44} (hw : wfArcs ar) (c m : Int) : ∃ k, flyoverref07_Region.f k n ar c m = grow_Region.f n ar c m := by
  obtain ⟨kc, hc⟩ := refCheck_at n ar
  unfold grow_Region.f
  rw [if_pos hw]
  by_cases he : (chk n ar).2 ≠ 0
  · rw [if_pos he]
    refine ⟨kc, ?_⟩
    unfold flyoverref07_Region.f
    rw [hc]
    simp only [Option.bind_some]
    rw [if_neg he]
  · rw [if_neg he]
    have he' : (chk n ar).2 = 0 := Classical.not_not.1 he
    have g := chk_ok.1 he'
    have hpre : ∀ k, kc ≤ k → flyoverref07_Region.f k n ar c m = (if c < 0 then flyoverref07_Region.j0 k c m true n ar else flyoverref07_Region.j0 k c m (decide (c ≥ n)) n ar) := by
      intro k hk
      unfold flyoverref07_Region.f
      rw [at_rounds (fun k => flyoverref03_Check.mono n ar k) hk hc]
      simp only [Option.bind_some]
      rw [if_pos he']
    by_cases h1 : c < 0 ∨ n ≤ c
    · rw [if_pos h1]
      refine ⟨kc + 1, ?_⟩
      rw [hpre _ (by omega)]
      by_cases h2 : c < 0
      · rw [if_pos h2, flyoverref07_Region.j0, if_pos rfl]
      · rw [if_neg h2, flyoverref07_Region.j0, if_pos (decide_eq_true (by omega))]
    · rw [if_neg h1]
      have hd : decide (c ≥ n) = false := decide_eq_false (by omega)
      by_cases h3 : m < 1 ∨ 1024 < m
      · rw [if_pos h3]
        refine ⟨kc + 1, ?_⟩
        rw [hpre _ (by omega), if_neg (by omega), flyoverref07_Region.j0, hd, if_neg (by simp)]
        by_cases h4 : m < 1
        · rw [if_pos h4]
        · rw [if_neg h4, if_pos (by omega)]
      · rw [if_neg h3]
        obtain ⟨ka, ha⟩ := refAround_at g (c := c) (by omega) (by omega)
        refine ⟨max kc ka + 1, ?_⟩
        rw [hpre _ (by omega), if_neg (by omega), flyoverref07_Region.j0, hd, if_neg (by simp), if_neg (by omega), if_neg (by omega), at_rounds (fun k => flyoverref07_Around.mono n ar c k) (Nat.le_max_right kc ka) ha]
        simp only [Option.bind_some]
        unfold regionG
        generalize (aroundL (nbG n ar) (List.replicate n.toNat false) c).1 = L
        by_cases hmn : (L.length : Int) < m
        · have e : mn m (L.length : Int) = (L.length : Int) := by unfold mn; rw [if_pos hmn]
          rw [e, if_pos (by omega), if_pos (by omega), Int.toNat_natCast, List.take_of_length_le (Nat.le_refl _), List.take_of_length_le (by omega)]
        · have e : mn m (L.length : Int) = m := by unfold mn; rw [if_neg hmn]
          rw [e, if_pos (by omega), if_pos (by omega)]
theorem regionG_len {n : Int} {ar : List S44} (g : GOk n ar) {c : Int} (m : Int) (h0 : 0 ≤ c) (h1 : c < n) : (regionG n ar c m).length ≤ 1024 := by
  have := nodup_len (N := n.toNat) (region_nodup g m h0 h1) (fun u hu => by have := region_range g m h0 h1 u hu; omega)
  have := g.n2
  omega
/-- The core, by both. -/
theorem refCore_at {n : Int} {ar : List S44} (hw : wfArcs ar) (c m : Int) : ∃ k r, flyoverref07_Core.f k n ar c m = some r ∧ grow_Core.f n ar c m = some r := by
  obtain ⟨k, hk⟩ := refRegion_at (n := n) hw c m
  obtain ⟨l, e, hreg⟩ := region_some (n := n) hw c m
  unfold flyoverref07_Core.f grow_Core.f
  refine ⟨k, ?_⟩
  rw [hk, hreg]
  simp only [Option.bind_some]
  rcases region_at hreg with ⟨he, rfl⟩ | ⟨rfl, g, hc, hm, rfl⟩
  · rw [if_neg he, if_neg he]
    exact ⟨_, rfl, rfl⟩
  · have hl := regionG_len g m hc.1 hc.2
    generalize regionG n ar c m = l at *
    have e1 : wrap64 ((l.length : Int) + 3) = (l.length : Int) + 3 := by simp only [wrap64]; omega
    have e2 : Int.tdiv ((l.length : Int) + 3) 4 = ((l.length : Int) + 3) / 4 := Int.tdiv_eq_ediv_of_nonneg (by omega)
    have e3 : wrap64 (((l.length : Int) + 3) / 4) = ((l.length : Int) + 3) / 4 := by simp only [wrap64]; omega
    rw [if_pos rfl, if_pos rfl, e1, e2, e3]
    have h1 : 0 ≤ ((l.length : Int) + 3) / 4 := by omega
    rw [if_pos h1, if_pos h1]
    by_cases h2 : ((l.length : Int) + 3) / 4 ≤ (l.length : Int)
    · rw [if_pos h2, if_pos h2]
      unfold slices_Clone_int_int.f
      rw [if_pos (by rw [List.length_take]; omega)]
      exact ⟨_, rfl, rfl⟩
    · omega
end Go.Proofs.Ytihaddejjgaepaa.G

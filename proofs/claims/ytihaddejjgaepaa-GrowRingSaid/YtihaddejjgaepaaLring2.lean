/- GrowRing: true of every input. -/
import Derived.Test.YtihaddejjgaepaaLworks07
namespace Go.Proofs.Ytihaddejjgaepaa.G
set_option linter.unusedVariables false
set_option linter.unusedSimpArgs false
open Go.RowKit Go.Proofs.YtihaddejjgaepaaW.PrintWords Go.Proofs.YtihaddejjgaepaaW.PrintLast Go.Proofs.YtihaddejjgaepaaW.PrintMore

theorem ring_law {n : Int} {ar : List S44} (hw : wfArcs ar) (c m : Int) : ∃ k, flyoverlaw07_GrowRing.f k n ar c m = some true := by
  obtain ⟨kw, hkw⟩ := works07_at
  have hlarge : ∃ b, flyoverlaw07_large.f n ar = some b := by
    unfold flyoverlaw07_large.f
    split <;> exact ⟨_, rfl⟩
  obtain ⟨b, hb⟩ := hlarge
  obtain ⟨l, e, hreg⟩ := region_some (n := n) hw c m
  have start : ∀ k, kw ≤ k → ∀ r, (if b = true then some true else ((grow_Region.f n ar c m).bind fun bt1004 => (if bt1004.2 = 0 then ((grow_Ring.f n ar bt1004.1).bind fun bt1008 => (if 0 ≤ n then (if (n : Int).toNat ≤ 281474976710656 then (flyoverlaw07_GrowRing.l0 k bt1008.1 bt1008.2 (List.replicate (n : Int).toNat false) (List.replicate (n : Int).toNat false) bt1004.1 (bt1004.1.length : Int) 0 n ar) else (none)) else (none))) else (some ((bt1004.1.length : Int) == 0))))) = r → flyoverlaw07_GrowRing.f k n ar c m = r := by
    intro k hk r hr
    delta flyoverlaw07_GrowRing.f
    refine bind_is (at_rounds flyoverlaw07_works.mono hk hkw) ?_
    show _ = _
    refine (if_pos rfl).trans (bind_is hb ?_)
    exact hr
  cases b with
  | true => exact ⟨kw, start kw (Nat.le_refl _) _ (if_pos rfl)⟩
  | false =>
    rcases region_at hreg with ⟨he, rfl⟩ | ⟨rfl, g, hc, hm, rfl⟩
    · refine ⟨kw, start kw (Nat.le_refl _) _ ((if_neg (by decide)).trans (bind_is hreg ?_))⟩
      show _ = _
      exact (if_neg he).trans rfl
    · have hrange := region_range g m hc.1 hc.2
      have hnd := region_nodup g m hc.1 hc.2
      have h1 := g.n1
      have h2 := g.n2
      have hlen : (regionG n ar c m).length ≤ 1024 := by
        have := nodup_len (N := n.toNat) hnd (fun u hu => by have := hrange u hu; omega)
        omega
      have hring := ring_some g hw hrange hnd (by omega)
      generalize regionG n ar c m = l at *
      have hml : (marksOf n.toNat l).length = n.toNat := by simp [marksOf, setMarks_length]
      have hrmem := ringUpto_mem (nbG n ar) (marksOf n.toNat l) n.toNat
      have hrstr := ringUpto_strict (nbG n ar) (marksOf n.toNat l) n.toNat
      have hr : ringG n ar l = ringUpto (nbG n ar) (marksOf n.toNat l) n.toNat := rfl
      rw [hr] at hring
      generalize ringUpto (nbG n ar) (marksOf n.toNat l) n.toNat = r at *
      have hrr : ∀ u ∈ r, 0 ≤ u ∧ u < (n.toNat : Int) := fun u hu => ((hrmem u).1 hu).1
      have hrnd : r.Nodup := hrstr.imp (fun h => by omega)
      have hrl : r.length ≤ 1024 := by
        have := nodup_len hrnd hrr
        omega
      have hrl2 : (marksOf n.toNat r).length = n.toNat := by simp [marksOf, setMarks_length]
      have l2 := ring_l2 g hw hml hrl2 (fun v h0 h1 hin => by
        rw [marksOf_at hrr v h0 (by omega)]
        have hra : ringAt (nbG n ar) (marksOf n.toNat l) v = ((nbG n ar).getD v.toNat []).any (isIn (marksOf n.toNat l)) := by simp [ringAt, hin]
        rw [← hra, Bool.eq_iff_iff, List.contains_iff_mem, hrmem v]
        constructor
        · exact fun h => ⟨⟨h0, by omega⟩, h⟩
        · exact fun h => h.2) n.toNat 0 (by omega) (by omega)
      have l1 := ring_l1 h2 hml r (fun u hu => ⟨by have := hrr u hu; omega, by
        have := ((hrmem u).1 hu).2
        simp only [ringAt, Bool.and_eq_true, Bool.not_eq_true'] at this
        exact this.1⟩) hrnd hrl l2 _ 0 (Nat.zero_add _)
      obtain ⟨k0, l0⟩ := ring_l0 r l hrange hlen (by simpa [marksOf, setMarks] using l1) _ 0 (Nat.zero_add _)
      refine ⟨max kw k0, start _ (Nat.le_max_left _ _) _ ((if_neg (by decide)).trans (bind_is hreg ?_))⟩
      show _ = _
      refine (if_pos rfl).trans (bind_is hring ?_)
      show _ = _
      refine (if_pos (by omega)).trans ((if_pos (by omega)).trans ?_)
      have e : marksOf n.toNat (l.take 0) = List.replicate n.toNat false := rfl
      rw [e] at l0
      exact at_rounds (fun k => (flyoverlaw07_GrowRing.mono_l k).1 _ _ _ _ _ _ _ _ _) (Nat.le_max_right kw k0) l0
end Go.Proofs.Ytihaddejjgaepaa.G

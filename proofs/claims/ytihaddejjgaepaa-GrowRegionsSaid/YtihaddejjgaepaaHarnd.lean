/- What goes round a centre: plain laws of arnd. -/
import Derived.Test.YtihaddejjgaepaaHgraph
namespace Go.Proofs.Ytihaddejjgaepaa.G
set_option linter.unusedVariables false
set_option linter.unusedSimpArgs false
open Go.RowKit Go.Proofs.YtihaddejjgaepaaW.PrintWords Go.Proofs.YtihaddejjgaepaaW.PrintLast Go.Proofs.YtihaddejjgaepaaW.PrintMore

theorem isIn_set {N : Nat} {s : List Bool} (hs : s.length = N) (v u : Int) (hv : 0 ≤ v ∧ v < (N : Int)) (hu : 0 ≤ u ∧ u < (N : Int)) : isIn (s.set v.toNat true) u = (isIn s u || u == v) := by
  simp only [isIn, List.getD_eq_getElem?_getD, List.getElem?_set]
  by_cases hvu : v = u
  · subst hvu
    have : v.toNat < s.length := by omega
    simp [this]
  · have : ¬ v.toNat = u.toNat := by omega
    simp [this, Ne.symm hvu]
/-- What gets in. -/
theorem addNb_spec {N : Nat} (us : List Int) : ∀ (ins : List Bool) (q : List Int), ins.length = N → (∀ u ∈ us, 0 ≤ u ∧ u < (N : Int)) →
    ∃ new : List Int, (addNb ins q us).2 = q ++ new ∧ new.Nodup ∧ (∀ u ∈ new, u ∈ us ∧ isIn ins u = false) ∧ (∀ x : Int, 0 ≤ x → x < (N : Int) → isIn (addNb ins q us).1 x = (isIn ins x || new.contains x)) ∧ (∀ u ∈ us, isIn (addNb ins q us).1 u = true) := by
  induction us with
  | nil => intro ins q _ _; exact ⟨[], by simp [addNb], by simp, by simp, by simp [addNb], by simp⟩
  | cons v us ih =>
    intro ins q hN hus
    have hv := hus v (by simp)
    have hus' : ∀ u ∈ us, 0 ≤ u ∧ u < (N : Int) := fun u hu => hus u (by simp [hu])
    simp only [addNb]
    by_cases hin : isIn ins v = true
    · rw [if_pos hin]
      obtain ⟨new, h1, h2, h3, h4, h5⟩ := ih ins q hN hus'
      refine ⟨new, h1, h2, fun u hu => ⟨by simp [(h3 u hu).1], (h3 u hu).2⟩, h4, fun u hu => ?_⟩
      rcases List.mem_cons.1 hu with rfl | hu
      · rw [h4 u hv.1 hv.2, hin]; rfl
      · exact h5 u hu
    · rw [if_neg hin]
      obtain ⟨new, h1, h2, h3, h4, h5⟩ := ih (ins.set v.toNat true) (q ++ [v]) (by simp [hN]) hus'
      have hf : isIn ins v = false := by simpa using hin
      have hvn : v ∉ new := fun h => by
        have := (h3 v h).2
        rw [isIn_set hN v v hv hv] at this
        simp at this
      refine ⟨v :: new, by rw [h1]; simp, List.nodup_cons.2 ⟨hvn, h2⟩, fun u hu => ?_, fun x hx0 hx1 => ?_, fun u hu => ?_⟩
      · rcases List.mem_cons.1 hu with rfl | hu
        · exact ⟨by simp, hf⟩
        · have hur := hus' u (h3 u hu).1
          have := (h3 u hu).2
          rw [isIn_set hN v u hv hur] at this
          simp only [Bool.or_eq_false_iff] at this
          exact ⟨by simp [(h3 u hu).1], this.1⟩
      · rw [h4 x hx0 hx1, isIn_set hN v x hv ⟨hx0, hx1⟩, List.contains_cons, Bool.or_assoc]
      · rcases List.mem_cons.1 hu with rfl | hu
        · rw [h4 u hv.1 hv.2, isIn_set hN u u hv hv]; simp
        · exact h5 u hu

structure ArndSpec (N : Nat) (nb : List (List Int)) (ins : List Bool) (q : List Int) (out : List Int) (fin : List Bool) (A : List Int) : Prop where
  out_eq : out = q ++ A
  nodup : A.Nodup
  new : ∀ u ∈ A, (0 ≤ u ∧ u < (N : Int)) ∧ isIn ins u = false
  len : fin.length = N
  fin_eq : ∀ x : Int, 0 ≤ x → x < (N : Int) → isIn fin x = (isIn ins x || A.contains x)
  closed : ∀ v ∈ q ++ A, ∀ u ∈ nbAt nb v, isIn fin u = true
  via : ∀ i (hi : i < A.length), ∃ v ∈ q ++ A.take i, A[i] ∈ nbAt nb v

theorem arnd_spec {N : Nat} {nb : List (List Int)} (hnb : ∀ v : Int, ∀ u ∈ nbAt nb v, 0 ≤ u ∧ u < (N : Int)) : ∀ (k : Nat) (ins : List Bool) (q : List Int), ins.length = N → outs ins + q.length ≤ k →
    ∃ A, ArndSpec N nb ins q (arnd nb k ins q).1 (arnd nb k ins q).2 A := by
  intro k
  induction k with
  | zero =>
    intro ins q hN hk
    have : q = [] := List.eq_nil_of_length_eq_zero (by omega)
    subst this
    exact ⟨[], by simp [arnd], by simp, by simp, hN, by simp [arnd], by simp, by simp⟩
  | succ k ih =>
    intro ins q hN hk
    cases q with
    | nil => exact ⟨[], by simp [arnd], by simp, by simp, hN, by simp [arnd], by simp, by simp⟩
    | cons v q =>
      obtain ⟨new, h1, h2, h3, h4, h5⟩ := addNb_spec (nbAt nb v) ins q hN (hnb v)
      have ho := addNb_outs (nbAt nb v) ins q (fun u hu => by rw [hN]; exact hnb v u hu)
      simp only [arnd]
      generalize hP : addNb ins q (nbAt nb v) = P at *
      obtain ⟨ins', q'⟩ := P
      simp only at h1 h4 h5 ho
      subst h1
      have hN' : ins'.length = N := by
        have := addNb_length (nbAt nb v) ins q
        rw [hP] at this
        simpa [hN] using this
      obtain ⟨A, hA⟩ := ih ins' (q ++ new) hN' (by simp only [List.length_cons] at hk; omega)
      have hnr : ∀ u ∈ new, 0 ≤ u ∧ u < (N : Int) := fun u hu => hnb v u (h3 u hu).1
      refine ⟨new ++ A, ?_, ?_, ?_, hA.len, ?_, ?_, ?_⟩
      · rw [hA.out_eq]; simp
      · rw [List.nodup_append]
        refine ⟨h2, hA.nodup, fun x hx y hy hxy => ?_⟩
        subst hxy
        have h6 := (hA.new x hy).2
        rw [h4 x (hnr x hx).1 (hnr x hx).2] at h6
        simp [hx] at h6
      · intro u hu
        rcases List.mem_append.1 hu with hu | hu
        · exact ⟨hnr u hu, (h3 u hu).2⟩
        · have h6 := hA.new u hu
          refine ⟨h6.1, ?_⟩
          have h7 := h6.2
          rw [h4 u h6.1.1 h6.1.2] at h7
          simp only [Bool.or_eq_false_iff] at h7
          exact h7.1
      · intro x hx0 hx1
        rw [hA.fin_eq x hx0 hx1, h4 x hx0 hx1, Bool.or_assoc]
        congr 1
        simp [List.contains_eq_mem]
      · intro x hx u hu
        rcases List.mem_append.1 hx with hx | hx
        · rcases List.mem_cons.1 hx with rfl | hx
          · have hur := hnb x u hu
            rw [hA.fin_eq u hur.1 hur.2, h5 u hu]; rfl
          · exact hA.closed x (by simp [hx]) u hu
        · exact hA.closed x (by
            rcases List.mem_append.1 hx with hx | hx <;> simp [hx]) u hu
      · intro i hi
        by_cases hin : i < new.length
        · refine ⟨v, by simp, ?_⟩
          rw [List.getElem_append_left hin]
          exact (h3 _ (List.getElem_mem hin)).1
        · have hi' : i - new.length < A.length := by rw [List.length_append] at hi; omega
          obtain ⟨x, hx, hm⟩ := hA.via (i - new.length) hi'
          refine ⟨x, ?_, ?_⟩
          · rw [List.take_append, List.take_of_length_le (by omega)]
            simp only [List.mem_append, List.mem_cons] at hx ⊢
            rcases hx with (h | h) | h
            · exact .inl (.inr h)
            · exact .inr (.inl h)
            · exact .inr (.inr h)
          · rw [List.getElem_append_right (by omega)]
            exact hm
end Go.Proofs.Ytihaddejjgaepaa.G

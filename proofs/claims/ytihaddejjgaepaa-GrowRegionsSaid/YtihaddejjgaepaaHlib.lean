/- Contracts of the library's small functions in the form in which printed functions call them. -/
import Derived.Test.YtihaddejjgaepaaHbase
import Derived.Test.YtihaddejjgaepaaShelf
namespace Go.Proofs.Ytihaddejjgaepaa.G
set_option linter.unusedVariables false
set_option linter.unusedSimpArgs false
open Go.RowKit Go.Proofs.YtihaddejjgaepaaW.PrintWords Go.Proofs.YtihaddejjgaepaaW.PrintLast Go.Proofs.YtihaddejjgaepaaW.PrintMore

def isort (l : List Int) : List Int := l.mergeSort fun x y => decide (x ≤ y)
theorem isort_length (l : List Int) : (isort l).length = l.length := by simp [isort]

/-! ### slices.Sort at []int -/
def slices_Sort_int_int.f (l0 : List Int) : Option (List Int) := if l0.length < 4611686018427387904 then some (isort l0) else none
theorem slices_Sort_int_int.calls (P0_ : Nat → Prop) (u9000_ : Value) (l0 : List Int) (r : List Int) (w0 w : World) (hB : Below w0.heap.size w0 w) (ho0 : Kd.R (Kd.int .i64) 3 w w0.heap.size P0_ u9000_ l0) (h : slices_Sort_int_int.f l0 = some r) :
    Calls Try.prog 32 #[u9000_] w fun e w' => e = .returned (.tuple #[]) ∧ Kd.R (Kd.int .i64) 3 w' w0.heap.size (fun k_ => (P0_ k_ ∨ w.heap.size ≤ k_)) u9000_ r ∧ Below w0.heap.size w0 w' ∧ Kept w w' (fun k_ => P0_ k_) := by
  unfold slices_Sort_int_int.f at h
  split at h
  · rename_i hlen
    obtain rfl := Option.some.inj h
    rcases hb_form ho0 with ⟨rfl, rfl⟩ | ⟨g, cap, cur, rfl, hb, hg, hok, hh, hn, hm, hs, ht⟩
    · refine (Try.slices_Sort_int_none none 0 w).mono ?_
      rintro e w' ⟨rfl, rfl⟩
      refine ⟨rfl, ?_, hB, Kept.refl _ _⟩
      have e0 : isort [] = [] := by simp [isort]
      rw [e0]
      exact Kd.R_nil _ _ _ _ _
    · refine (Try.slices_Sort_int g 0 cap l0 w (hb_holds hh ht) hg hlen).mono ?_
      rintro e w' ⟨rfl, n, os, rfl⟩
      have := hb_after (h1 := fun _ => rfl) (enc := Value.int .i64) (ok := fun k_ => (P0_ k_ ∨ w.heap.size ≤ k_)) (xs := l0) hb (.inl hok) hh hn hm hs n (isort l0).toArray os (isort l0) (by simp) (by simp [isort_length]) (by simp)
      refine ⟨rfl, ?_, hb_below hB this.2 (by rintro k ⟨⟩; exact hb), hb_kept this.2 (by rintro k ⟨⟩; exact hok)⟩
      have h2 := this.1
      rw [isort_length] at h2
      exact h2
  · cases h

/-! ### slices.Compact at []int -/
def slices_Compact_int_int.f (l0 : List Int) : Option (List Int) := some (Lib.compact l0)
theorem slices_Compact_int_int.calls (P0_ : Nat → Prop) (u9000_ : Value) (l0 : List Int) (r : List Int) (w0 w : World) (hB : Below w0.heap.size w0 w) (ho0 : Kd.R (Kd.int .i64) 3 w w0.heap.size P0_ u9000_ l0) (h : slices_Compact_int_int.f l0 = some r) :
    Calls Try.prog 34 #[u9000_] w fun e w' => ∃ v0_ : Value, e = .returned (v0_) ∧ Kd.R (Kd.int .i64) 3 w' w0.heap.size (fun k_ => (P0_ k_ ∨ w.heap.size ≤ k_)) v0_ r ∧ Below w0.heap.size w0 w' ∧ Kept w w' (fun k_ => P0_ k_) := by
  obtain rfl := Option.some.inj h
  rcases hb_form ho0 with ⟨rfl, rfl⟩ | ⟨g, cap, cur, rfl, hb, hg, hok, hh, hn, hm, hs, ht⟩
  · refine (Try.slices_Compact_int_empty none 0 w).mono ?_
    rintro e w' ⟨rfl, rfl⟩
    exact ⟨_, rfl, Kd.R_nil _ _ _ _ _, hB, Kept.refl _ _⟩
  · refine (Try.slices_Compact_int g 0 cap l0 w (hb_holds hh ht) (by simp only [maxLen] at hm; omega) hn).mono ?_
    rintro e w' ⟨rfl, q, rfl⟩
    have hlc : (Lib.compact l0).length ≤ l0.length := Lib.compact_length_le l0
    have := hb_after (h1 := fun _ => rfl) (enc := Value.int .i64) (ok := fun k_ => (P0_ k_ ∨ w.heap.size ≤ k_)) (xs := l0) hb (.inl hok) hh hn hm hs q (Lib.compact l0 ++ List.replicate (l0.length - (Lib.compact l0).length) 0).toArray #[] (Lib.compact l0) (by simp) (by simp; omega) (by simp)
    rw [Sort.grow_empty] at this
    exact ⟨_, rfl, this.1, hb_below hB this.2 (by rintro k ⟨⟩; exact hb), hb_kept this.2 (by rintro k ⟨⟩; exact hok)⟩

/-! ### slices.Clip, cell.cut: a slice cut to its length -/
theorem hl_foot {w : World} {P : Nat → Prop} {A : Option Addr} {n c : Nat} {l : List Int} {base : Nat} {ok : Nat → Prop} (ho : Kd.R (Kd.int .i64) 3 w base P (.slice A n c) l) (hok : ∀ k, P k → ok k) :
    Kd.F (Kd.int .i64) w ok A n l := by
  intro W' hW
  obtain ⟨rfl, hc⟩ := Kd.R_reads' (Kd.R_step ho (fun k hk hlt => hW k (hok k hk) hlt))
  exact hc.2
theorem hl_sub (j : Nat) : IntKind.i64.wrap ((j : Int) - 0) = j ∨ True := .inr trivial
def slices_Clip_int_int.f (l0 : List Int) : Option (List Int) := some l0
theorem slices_Clip_int_int.calls (P0_ : Nat → Prop) (u9000_ : Value) (l0 : List Int) (r : List Int) (w0 w : World) (hB : Below w0.heap.size w0 w) (ho0 : Kd.R (Kd.int .i64) 3 w w0.heap.size P0_ u9000_ l0) (h : slices_Clip_int_int.f l0 = some r) :
    Calls Try.prog 33 #[u9000_] w fun e w' => ∃ v0_ : Value, e = .returned (v0_) ∧ Kd.V (Kd.int .i64) 3 w' w.heap.size (fun k_ => (P0_ k_ ∨ w.heap.size ≤ k_)) v0_ r ∧ Below w0.heap.size w0 w' ∧ Kept w w' (fun k_ => P0_ k_) := by
  obtain rfl := Option.some.inj h
  rcases hb_form ho0 with ⟨rfl, rfl⟩ | ⟨g, cap, cur, rfl, hb, hg, hok, hh, hn, hm, hs, ht⟩
  · have hu28 := Try.underlying28
    go_enter Try.func33, Try.ntmps33
    go_wp2
    go_ret
    exact ⟨_, rfl, ⟨none, 0, rfl, Nat.le_refl _, hl_foot (Kd.R_nil _ _ _ _ _ : Kd.R (Kd.int .i64) 3 w 0 P0_ (.slice none 0 0) []) (fun k hk => .inl hk)⟩, hB, Kept.refl _ _⟩
  · have hu28 := Try.underlying28
    have hf := hl_foot ho0 (ok := fun k_ => (P0_ k_ ∨ w.heap.size ≤ k_)) (fun k hk => .inl hk)
    simp only [maxLen] at hm
    have hlc : l0.length ≤ 9223372036854775807 := by omega
    have hnc : (l0.length : Int) ≤ cap := by omega
    clear ho0 hh ht hs h
    generalize hLn : l0.length = n at hn hlc hnc hf ⊢
    go_enter Try.func33, Try.ntmps33
    go_wp2
    go_ret
    subst hLn
    exact ⟨_, rfl, ⟨_, _, rfl, Nat.le_refl _, hf⟩, hB, Kept.refl _ _⟩

/-! ### slices.Clone at []int -/
def slices_Clone_int_int.f (l0 : List Int) : Option (List Int) := if l0.length * 8 ≤ 140737488355328 then some l0 else none
theorem slices_Clone_int_int.calls (A0 : Option Addr) (c0 : Nat) (l0 : List Int) (r : List Int) (w : World) (hr0 : Kd.C (Kd.int .i64) w A0 l0.length l0) (hc0 : l0.length ≤ c0) (h : slices_Clone_int_int.f l0 = some r) :
    Calls Try.prog 26 #[.slice A0 l0.length c0] w fun e w' => ∃ v0_ : Value, e = .returned (v0_) ∧ Kd.R (Kd.int .i64) 3 w' w.heap.size (fun _ => True) v0_ r ∧ Below w.heap.size w w' := by
  unfold slices_Clone_int_int.f at h
  split at h
  · rename_i hlen
    obtain rfl := Option.some.inj h
    rcases Nat.eq_zero_or_pos l0.length with h0 | h0
    · obtain rfl := List.eq_nil_of_length_eq_zero h0
      rcases A0 with _ | a
      · refine (Try.slices_Clone_int_nil 0 c0 w).mono ?_
        rintro e w' ⟨rfl, rfl⟩
        exact ⟨_, rfl, Kd.R_nil _ _ _ _ _, Below.refl _ _⟩
      · refine (Try.slices_Clone_int_zero a c0 w).mono ?_
        rintro e w' ⟨v', rfl, ho, _, hb⟩
        exact ⟨_, rfl, Kd.R_of_own (xs := ([] : List Int)) ho (fun _ _ => trivial), hb⟩
    · obtain ⟨b, off, rfl, hc⟩ := hb_plain hr0 h0
      refine (Try.slices_Clone_int b off l0.length c0 l0 w (Nat.le_refl _) hlen hc).mono ?_
      rintro e w' ⟨v', rfl, ho, _, hb⟩
      rw [List.take_length] at ho
      exact ⟨_, rfl, Kd.R_of_own (xs := l0) ho (fun _ _ => trivial), hb⟩
  · cases h

end Go.Proofs.Ytihaddejjgaepaa.G

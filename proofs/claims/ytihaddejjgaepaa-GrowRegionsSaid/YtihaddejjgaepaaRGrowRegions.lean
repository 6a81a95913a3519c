/- GrowRegions: a region around a centre, and its core, are as the document has them. The row. -/
import Derived.Test.YtihaddejjgaepaaHregions
import Derived.Test.YtihaddejjgaepaaRgraph
import Derived.OpenShut
import Derived.ShutString
namespace Go.Proofs.Ytihaddejjgaepaa.growRegions
set_option linter.unusedVariables false
set_option linter.unusedSimpArgs false
open Go.ChangeShapes Go.WideShapes Go.ChangeAt Go.RowKit Go.Joins Go.Deep Go.Proofs.Ytihaddejjgaepaa.G
set_option linter.unusedVariables false
theorem own : ownKnob Try.prog.godebug = none := by kernel_rfl
theorem laidOut : laidOutB Try.prog = true := by kernel_rfl
set_option maxRecDepth 100000 in
theorem lifted (os : Os) (started : os.Started) (H : Type) (enc : TypeId × Value → H) :
    ReturnsInHanded {} Try.checked os 3 .any (Rows.growRegionsSpec.pre6 enc Try.prog Try.f3 Rows.growRegionsRow.domain false) (Rows.growRegionsSpec.post enc Try.prog Try.f3 false true false false) := by
  refine returnsInHanded_of_change_sized (C := Try.checked) own started (by kernel_rfl) Try.func3
    (ChangeSpec.witness6 (enc := enc) (C := Try.checked) false ⟨#[], #[.agg #[.int .i64 0, .slice none 0 0], .int .i64 0, .int .i64 0], []⟩ 8 (by kernel_rfl) (by kernel_rfl) (by kernel_rfl) (by kernel_rfl)) ?_
  intro W base args ds gs before hval0 hW hcnd hsz0 _
  have hval : ∀ (j : Nat) t v, Try.f3.params[j]? = some t → args[j]? = some v → Value.okWide Try.prog W .any base t v := hval0
  have hW' := hW
  obtain ⟨p, q, hA0, hV, rfl, hfz, hnd⟩ := hW
  have hA : DataW.TrodAll enc Try.prog W 0 (fun _ => true) true Try.f3.params.toList args.toList ds p := hA0
  rw [Try.params3] at hA hval
  obtain ⟨v0, vs0, d0, ds0, p0, q0, hargs, rfl, rfl, h0, r0⟩ := trodAll_cons hA
  obtain ⟨v1, vs1, d1, ds1, p1, q1, rfl, rfl, rfl, h1, r1⟩ := trodAll_cons r0
  obtain ⟨v2, vs2, d2, ds2, p2, q2, rfl, rfl, rfl, h2, r2⟩ := trodAll_cons r1
  obtain ⟨rfl, rfl, rfl⟩ := trodAll_nil r2
  obtain rfl : args = #[v0, v1, v2] := by cases args; simp_all
  obtain ⟨rfl, rfl⟩ := trodVars_none hV
  have k0 := h0
  have lt0 : ∀ x ∈ p0, x.block < W.heap.size := by obtain ⟨m, hm⟩ := k0; exact DataW.trod_lt m _ _ _ hm
  obtain ⟨f0, f1, y0, y1, fn, rfl, hd0, -, t0, t1⟩ := open_agg2 Try.underlying24 (by kernel_rfl) (by kernel_rfl) (hval 0 24 v0 rfl rfl) h0
  obtain ⟨n, e0, _, wf0⟩ := DataW.trod_int Try.underlying3 t0
  simp only [List.cons.injEq, and_true] at e0
  subst e0
  obtain ⟨A, c, ar, rfl, hlc, hC, hwf, hse⟩ := open_arcs_sized t1
  obtain ⟨a1, rfl, rfl, rfl, w1⟩ := open_int Try.underlying3 (hval 1 3 v1 rfl rfl) h1
  obtain ⟨a2, rfl, rfl, rfl, w2⟩ := open_int Try.underlying3 (hval 2 3 v2 rfl rfl) h2
  have hsz : ar.length * 24 ≤ 140737488351232 := by
    rcases hse with rfl | ⟨es, sp, he, hl⟩
    · simp
    · rw [hd0, he] at hsz0
      have hsz1 : (DataW.weightsEach Try.prog (Try.f3.params.toList ++ Rows.growRegionsSpec.plain.varTypes Try.prog) _).all (· ≤ reachBytes) = true := hsz0
      have hb : Try.prog.bytesOf 44 = 24 := by kernel_rfl
      have h2 : (es.length + sp.length) * Try.prog.bytesOf 44 ≤ reachBytes := of_decide_eq_true (List.all_eq_true.1 hsz1 _ (by simp [DataW.weights, DataW.weightsEach, Try.params3, Try.underlying24, Try.underlying22]))
      have h3 := reachBytes_lt
      rw [hb, ← hl] at *
      have h4 : reachBytes = 140737488351232 := by decide
      omega
  clear hA0 hval0 hsz0
  refine (growRegions_calls n A c ar a1 a2 W hC hlc hwf hsz).mono fun e W' ⟨he, bel⟩ => ?_
  subst he
  exact ⟨_, rfl, _, _, _, [], _, [], hW', trodAll_mk1 (shut_bool Try.underlying4 _), (trodAll_cons_mk (Below.trod laidOut (by kernel_rfl) (of_decide_eq_true (by kernel_rfl)) k0 bel lt0) (trodAll_cons_mk (shut_int Try.underlying3 w1) (trodAll_cons_mk (shut_int Try.underlying3 w2) trodAll_mk0))), rfl, bel.frame _, fun h => by cases h⟩
theorem o_named : Try.pinned.checked.prog.funcNamed Rows.growRegionsRow.func = some 3 := by kernel_rfl
set_option maxRecDepth 100000 in
theorem o_closed : joinedFacts Try.pinned.checked.prog 3 Try.f3 Rows.growRegionsSpec Rows.growRegionsRow = true := by
  unfold joinedFacts
  iterate 40 (try (any_goals with_reducible refine Bool.and_eq_true_iff.2 ⟨?_, ?_⟩))
  all_goals (as_aux_lemma => kernel_rfl)
theorem o_inst : Try.f3.isInstance Try.pinned.checked.prog Rows.growRegionsRow.origin Rows.growRegionsRow.targs := of_decide_eq_true (by kernel_rfl)
theorem o_wrap : Try.f3.isWrapper Try.pinned.checked.prog Rows.growRegionsRow.wrapper Rows.growRegionsRow.mainSum := by unfold Func.isWrapper; first | (rw [if_pos (by decide +kernel)]; kernel_rfl) | (rw [if_neg (by decide +kernel)]; exact ⟨rfl, rfl⟩)
theorem over : Rows.growRegionsRow.holds Try.pinned (OpenSpec.ofChange Rows.growRegionsSpec) :=
  OpenClaim.holds_of_wide 3 Try.f3 rfl rfl rfl rfl rfl rfl rfl ⟨rfl, rfl, rfl, rfl, rfl⟩ rfl rfl rfl rfl rfl o_named Try.func3 o_closed
    o_inst o_wrap (fun os started H enc _ => lifted os started H enc)
theorem proved : Rows.GrowRegionsSaid := over
#print axioms proved
end Go.Proofs.Ytihaddejjgaepaa.growRegions
namespace Go.Proofs.Ytihaddejjgaepaa
/-- The row, under a short name, for the claim. -/
theorem growRegions_holds : Rows.GrowRegionsSaid := growRegions.proved
end Go.Proofs.Ytihaddejjgaepaa

/- grow.Ring. -/
import Derived.Test.YtihaddejjgaepaaHrm
import Derived.Shelf.SlicesE.IndexFunc
import Derived.Test.YtihaddejjgaepaaShelf
import Derived.Lib.SliceRun
import Derived.LoopN
namespace Go.Proofs.Ytihaddejjgaepaa.G
set_option linter.unusedVariables false
set_option linter.unusedSimpArgs false
open Go.RowKit Go.Shelf Go.Lib Go.Proofs.YtihaddejjgaepaaW.PrintWords Go.Proofs.YtihaddejjgaepaaW.PrintLast Go.Proofs.YtihaddejjgaepaaW.PrintMore


theorem ring1_pred (n : Int) (B : Nat) (w : World) (hcell : w.cell? ⟨B, 0, none⟩ = some (.int .i64 n)) :
    PredAt Try.prog 29 #[.pointer (some ⟨B, 0, none⟩)] (Value.int .i64) (fun x => decide (x < 0) || decide (n ≤ x)) w := fun W x hb => by
  have hc : W.cell? ⟨B, 0, none⟩ = some (.int .i64 n) := (hb.cell (p := ⟨B, 0, none⟩) (World.block_lt_of_cell? w _ hcell)).trans hcell
  show Calls Try.prog 29 #[.int .i64 x, .pointer (some ⟨B, 0, none⟩)] W _
  go_enter Try.func29, Try.ntmps29
  by_cases h1 : x < 0
  · have hd : decide (x < 0) = true := decide_eq_true h1
    go_wp2
    all_goals (go_ret; exact ⟨by first | (simp [h1]; done) | simp_all, 0, rfl⟩)
  · have hd : decide (x < 0) = false := decide_eq_false h1
    go_wp2
    all_goals (go_ret; exact ⟨by first | (simp; done) | (simp; omega) | simp_all, 0, rfl⟩)
theorem ring2_pred (N : Nat) (B r cap : Nat) (ins : List Bool) (hN : ins.length = N) (w : World) (hcell : w.cell? ⟨B, 0, none⟩ = some (.slice (some ⟨r, 0, none⟩) N cap)) (hc : ∀ j (hj : j < ins.length), w.cell? ⟨r, j, none⟩ = some (.bool ins[j])) :
    PredAt Try.prog 30 #[.pointer (some ⟨B, 0, none⟩)] (fun x : Fin N => Value.int .i64 (x.val : Int)) (fun x => isIn ins (x.val : Int)) w := fun W x hb => by
  have h1 : W.cell? ⟨B, 0, none⟩ = some (.slice (some ⟨r, 0, none⟩) N cap) := (hb.cell (p := ⟨B, 0, none⟩) (World.block_lt_of_cell? w _ hcell)).trans hcell
  have hx : x.val < ins.length := by rw [hN]; exact x.isLt
  have h2 : W.cell? ⟨r, x.val, none⟩ = some (.bool ins[x.val]) := (hb.cell (p := ⟨r, x.val, none⟩) (World.block_lt_of_cell? w _ (hc _ hx))).trans (hc _ hx)
  have h3 : isIn ins (x.val : Int) = ins[x.val] := by simp [isIn, hx]
  show Calls Try.prog 30 #[.int .i64 (x.val : Int), .pointer (some ⟨B, 0, none⟩)] W fun e w' => e = .returned (.bool (isIn ins (x.val : Int))) ∧ ∃ q, w' = W.drewN q
  rw [h3]
  generalize ins[x.val] = b at h2
  have h4 : (x.val : Int) < (N : Int) := by have := x.isLt; omega
  have h5 : (0 : Int) ≤ (x.val : Int) := by omega
  have h6 : (x.val : Int).toNat = x.val := by simp
  generalize x.val = y at *
  clear hc h3
  go_enter Try.func30, Try.ntmps30
  go_wp2
  go_ret
  exact ⟨rfl, 0, rfl⟩

theorem contains_zero (A : Option Addr) (c : Nat) (fv : Value) (w : World) : Calls Try.prog 28 #[.slice A 0 c, fv] w fun e w' => e = .returned (.bool false) ∧ w' = w := by
  go_enter Try.func28, Try.ntmps28
  go_wp2
  refine wp_loop_rounds 1 ?_
  rw [rounds_succ]
  go_wp2
  go_ret
  exact ⟨rfl, rfl⟩
theorem contains_ints {α : Type} [Inhabited α] (enc : α → Int) (p : α → Bool) (q : Int → Bool) (g : Nat) (lb : Array Value) (eg : ∀ args w, (callFunc g args).run Try.prog w = .ok (.enter g args) w) (w : World) (A : Option Addr) (c : Nat) (zs : List α) (l : List Int)
    (hl : zs.map enc = l) (hp : PredAt Try.prog g lb (fun x => Value.int .i64 (enc x)) p w) (hpq : ∀ x ∈ zs, p x = q (enc x)) (hC : Kd.C (Kd.int .i64) w A l.length l) (hbig : l.length ≤ 9223372036854775807) :
    Calls Try.prog 28 #[.slice A l.length c, .func (.func g) #[] lb] w fun e w' => e = .returned (.bool (l.any q)) ∧ ∃ m, w' = w.drewN m := by
  rcases Nat.eq_zero_or_pos l.length with h0 | h0
  · have : l = [] := List.eq_nil_of_length_eq_zero h0
    subst this
    exact (contains_zero A c _ w).mono (by rintro e w' ⟨rfl, rfl⟩; exact ⟨rfl, 0, rfl⟩)
  · obtain ⟨b, off, rfl, hc⟩ := hb_plain hC h0
    have hlen : zs.length = l.length := by rw [← hl]; simp
    have := AnyE.slices_ContainsFunc Try.lContains (fun x => Value.int .i64 (enc x)) p g lb eg b off l.length c zs w hp (by omega) hbig (fun j hj => by
      rw [hc j (by omega), ← hl]
      simp [hj])
    refine Calls.mono this ?_
    rintro e w' ⟨rfl, hw⟩
    refine ⟨?_, hw⟩
    have e : zs.any p = l.any q := by
      rw [← hl, List.any_map, Bool.eq_iff_iff, List.any_eq_true, List.any_eq_true]
      constructor
      · rintro ⟨x, hx, h⟩
        exact ⟨x, hx, by rw [← h, hpq x hx]; rfl⟩
      · rintro ⟨x, hx, h⟩
        exact ⟨x, hx, by rw [hpq x hx]; exact h⟩
    rw [← hlen, List.take_length, e]

def setMarks (s : List Bool) (l : List Int) : List Bool := l.foldl (fun s v => s.set v.toNat true) s
def marksOf (n : Nat) (l : List Int) : List Bool := setMarks (List.replicate n false) l
theorem setMarks_length (l : List Int) : ∀ s : List Bool, (setMarks s l).length = s.length := by
  induction l with
  | nil => intro s; rfl
  | cons v l ih => intro s; rw [setMarks, List.foldl_cons]; exact (ih _).trans (by simp)
theorem setMarks_at (N : Nat) (l : List Int) : ∀ s : List Bool, s.length = N → (∀ v ∈ l, 0 ≤ v ∧ v < (N : Int)) → ∀ u : Int, 0 ≤ u → u < (N : Int) → isIn (setMarks s l) u = (isIn s u || l.contains u) := by
  induction l with
  | nil => intro s _ _ u _ _; simp [setMarks]
  | cons v l ih =>
    intro s hs h u h0 h1
    have hv := h v (by simp)
    rw [setMarks, List.foldl_cons]
    refine (ih (s.set v.toNat true) (by simp [hs]) (fun x hx => h x (by simp [hx])) u h0 h1).trans ?_
    have e : isIn (s.set v.toNat true) u = (isIn s u || u == v) := by
      simp only [isIn, List.getD_eq_getElem?_getD, List.getElem?_set]
      by_cases hvu : v = u
      · subst hvu
        have : v.toNat < s.length := by omega
        simp [this]
      · have : ¬ v.toNat = u.toNat := by omega
        simp [this, Ne.symm hvu]
    rw [e, List.contains_cons, Bool.or_assoc]
theorem marksOf_at {N : Nat} {l : List Int} (h : ∀ v ∈ l, 0 ≤ v ∧ v < (N : Int)) (u : Int) (h0 : 0 ≤ u) (h1 : u < (N : Int)) : isIn (marksOf N l) u = l.contains u := by
  rw [marksOf, setMarks_at N l _ (by simp) h u h0 h1]
  have : isIn (List.replicate N false) u = false := by
    simp only [isIn, List.getD_eq_getElem?_getD, List.getElem?_replicate]
    split <;> rfl
  rw [this, Bool.false_or]
/-- Who is around. -/
def ringAt (nb : List (List Int)) (ins : List Bool) (v : Int) : Bool := !isIn ins v && (nb.getD v.toNat []).any (isIn ins)
def ringUpto (nb : List (List Int)) (ins : List Bool) (j : Nat) : List Int := ((List.range j).map (fun i : Nat => (i : Int))).filter (ringAt nb ins)
theorem ringUpto_succ (nb : List (List Int)) (ins : List Bool) (j : Nat) : ringUpto nb ins (j + 1) = ringUpto nb ins j ++ (if ringAt nb ins (j : Int) = true then [(j : Int)] else []) := by
  unfold ringUpto
  rw [List.range_succ, List.map_append, List.filter_append]
  congr 1
  simp [List.filter_cons]
def ringG (n : Int) (ar : List S44) (l : List Int) : List Int := ringUpto (nbG n ar) (marksOf n.toNat l) n.toNat
def grow_Ring.f (n : Int) (ar : List S44) (l : List Int) : Option (List Int × Int) :=
  if wfArcs ar then some (if (chk n ar).2 ≠ 0 then ([], (chk n ar).2) else if 16384 < l.length then ([], 2) else if l.any (fun x => decide (x < 0) || decide (n ≤ x)) = true then ([], 5) else if ¬ l.Nodup then ([], 4) else (ringG n ar l, 0)) else none

set_option maxRecDepth 100000 in
set_option maxHeartbeats 4000000 in
theorem grow_Ring.calls (a0_0 : Int) (A0_1 : Option Addr) (c0_1 : Nat) (l0_1 : List S44) (A1 : Option Addr) (c1 : Nat) (l1 : List Int) (r1 : List Int) (r2 : Int) (w : World) (hr0_1 : Kd.C k44 w A0_1 l0_1.length l0_1) (hc0_1 : l0_1.length ≤ c0_1) (hr1 : Kd.C (Kd.int .i64) w A1 l1.length l1) (hc1 : l1.length ≤ c1) (h : grow_Ring.f a0_0 l0_1 l1 = some (r1, r2)) :
    Calls Try.prog 16 #[.agg #[.int .i64 a0_0, .slice A0_1 l0_1.length c0_1], .slice A1 l1.length c1] w fun e w' => ∃ v0_ : Value, e = .returned (.tuple #[v0_, .int .i64 r2]) ∧ Kd.R (Kd.int .i64) 3 w' w.heap.size (fun _ => True) v0_ r1 ∧ Below w.heap.size w w' := by
  unfold grow_Ring.f at h
  split at h
  case isFalse => cases h
  rename_i hwf
  obtain ⟨k, hck⟩ := graph_Check_at (n := a0_0) hwf
  replace h := Option.some.inj h
  obtain ⟨C1, E, hE⟩ : ∃ C1 E, chk a0_0 l0_1 = (C1, E) := ⟨_, _, rfl⟩
  rw [hE] at h hck
  have HE : Aside0 ((chk a0_0 l0_1).2 = E) := ⟨by rw [hE]⟩
  clear hE
  simp only at h
  obtain ⟨w2, hw2⟩ : ∃ w2, w.alloc (.cells #[.int .i64 a0_0, .slice A0_1 l0_1.length c0_1] 24) = w2 := ⟨_, rfl⟩
  have hb0 : w2.heap[w.heap.size]? = some (.cells #[.int .i64 a0_0, .slice A0_1 l0_1.length c0_1] 24 (0, 0)) := by
    rw [← hw2]; exact World.alloc_heap_new w _
  have hB2 : Below w.heap.size w w2 := by rw [← hw2]; exact below_alloc (Below.refl _ _) _
  have hC2 : Kd.C k44 w2 A0_1 l0_1.length l0_1 := by rw [← hw2]; exact Kd.C_alloc hr0_1 _
  have hL2 : Kd.C (Kd.int .i64) w2 A1 l1.length l1 := by rw [← hw2]; exact Kd.C_alloc hr1 _
  have hq0 : w2.cell? ⟨w.heap.size, 0, none⟩ = some (.int .i64 a0_0) := hb_at hb0 0
  have hq1 : w2.cell? ⟨w.heap.size, 1, none⟩ = some (.slice A0_1 l0_1.length c0_1) := hb_at hb0 1
  go_enter Try.func16, Try.ntmps16
  go_wp2_with fail
  refine (graph_Check.calls k a0_0 A0_1 c0_1 l0_1 _ _ w2 hC2 hc0_1 hck).mono ?_
  rintro e w3 ⟨rfl, hB3⟩
  have hb0' : w3.heap[w.heap.size]? = _ := (hB3.block _ (blk_lt hb0)).trans hb0
  have hB3' : Below w.heap.size w w3 := hB2.trans (hB3.mono hB2.size)
  have hC3 : Kd.C k44 w3 A0_1 l0_1.length l0_1 := Kd.C_below hC2 hB3
  have hL3 : Kd.C (Kd.int .i64) w3 A1 l1.length l1 := Kd.C_below hL2 hB3
  have hs3 : w.heap.size + 1 ≤ w3.heap.size := by
    have := blk_lt hb0'; omega
  have Hw2 := Aside0.mk hw2
  clear hb0 hB2 hC2 hL2 hB3 hw2 hr0_1 hr1 hq0 hq1
  have hq0 : w3.cell? ⟨w.heap.size, 0, none⟩ = some (.int .i64 a0_0) := hb_at hb0' 0
  have hq1 : w3.cell? ⟨w.heap.size, 1, none⟩ = some (.slice A0_1 l0_1.length c0_1) := hb_at hb0' 1
  by_cases h0 : E = 0
  · subst h0
    have g := chk_ok.1 HE.out
    rw [if_neg (by simp)] at h
    by_cases h1 : 16384 < l1.length
    · rw [if_pos h1] at h
      obtain ⟨rfl, rfl⟩ := Prod.mk.inj h
      have h1' : (16384 : Int) < (l1.length : Int) := by omega
      go_wp2
      go_ret2
      exact ⟨_, rfl, Kd.R_nil _ _ _ _ _, hB3'⟩
    · rw [if_neg h1] at h
      have h1' : ¬ (16384 : Int) < (l1.length : Int) := by omega
      have eg1 : ∀ args w, (callFunc 29 args).run Try.prog w = .ok (.enter 29 args) w := enters_of Try.func29 (by kernel_rfl) rfl
      have hcon := contains_ints (α := Int) id (fun x => decide (x < 0) || decide (a0_0 ≤ x)) (fun x => decide (x < 0) || decide (a0_0 ≤ x)) 29 #[.pointer (some ⟨w.heap.size, 0, none⟩)] eg1 w3 A1 c1 l1 l1 (by simp) (ring1_pred a0_0 w.heap.size w3 hq0) (fun x _ => rfl) hL3 (by omega)
      clear eg1
      generalize hany : l1.any (fun x => decide (x < 0) || decide (a0_0 ≤ x)) = any at h hcon
      have HCON := Aside0.mk hcon
      have HANY := Aside0.mk hany
      clear hcon hany
      cases any with
      | true =>
        rw [if_pos rfl] at h
        obtain ⟨rfl, rfl⟩ := Prod.mk.inj h
        go_wp2_with fail
        refine HCON.out.mono ?_
        rintro e w4 ⟨rfl, m4, rfl⟩
        go_wp2
        go_ret2
        exact ⟨_, rfl, Kd.R_nil _ _ _ _ _, pw_below_drewN hB3' m4⟩
      | false =>
        rw [if_neg (by simp)] at h
        have hrange : ∀ x ∈ l1, 0 ≤ x ∧ x < a0_0 := fun x hx => by
          have := List.any_eq_false.1 HANY.out x hx
          simp at this
          omega
        have HRG := Aside0.mk hrange
        clear hrange
        go_wp2_with fail
        refine HCON.out.mono ?_
        rintro e w4 ⟨rfl, m4, rfl⟩
        clear HCON
        have hn1 := g.n1
        have hn2 := g.n2
        have hC4 := Kd.C_drewN hC3 m4
        have hL4 := Kd.C_drewN hL3 m4
        have hB4 := pw_below_drewN hB3' m4
        have hb04 := blk_drewN hb0' m4
        have hs4 : w.heap.size + 1 ≤ (w3.drewN m4).heap.size := hs3
        clear hC3 hL3 hB3' hb0' hs3 hq0 hq1
        generalize w3.drewN m4 = w4 at *
        have hq0 : w4.cell? ⟨w.heap.size, 0, none⟩ = some (.int .i64 a0_0) := hb_at hb04 0
        obtain ⟨fm, hfm⟩ := make_bools a0_0 (by omega) (by omega)
        have hmk := fun W => (hfm W).1
        obtain ⟨hRm, hgm⟩ := (hfm w4).2
        clear hfm
        have HRM := Aside0.mk hRm
        have HGM := Aside0.mk hgm
        clear hRm hgm
        have hrl : w4.heap.size < (fm w4).heap.size := Kd.R_lt HRM.out _ rfl
        obtain ⟨W5, hW5⟩ : ∃ W5, (fm w4).alloc (.cells #[.slice (some ⟨w4.heap.size, 0, none⟩) a0_0.toNat a0_0.toNat] 37) = W5 := ⟨_, rfl⟩
        have HBX : Aside0 (W5.heap[(fm w4).heap.size]? = some (.cells #[.slice (some ⟨w4.heap.size, 0, none⟩) a0_0.toNat a0_0.toNat] 37 (0, 0))) := ⟨by rw [← hW5]; exact World.alloc_heap_new _ _⟩
        have HR5 : Aside0 (Kd.R Kd.bool 4 W5 w4.heap.size (fun _ => True) (.slice (some ⟨w4.heap.size, 0, none⟩) a0_0.toNat a0_0.toNat) (List.replicate a0_0.toNat false)) := ⟨by rw [← hW5]; exact Kd.R_alloc HRM.out _⟩
        have HB5 : Aside0 (Below w4.heap.size w4 W5) := ⟨by rw [← hW5]; exact (below_grown HGM.out).alloc (Nat.le_of_lt hrl) _⟩
        go_wp2
        try rw [hW5]
        have HW5 := Aside0.mk hW5
        clear hW5 hmk
        generalize hB8 : (fm w4).heap.size = B8 at *
        have HB8 := Aside0.mk hB8
        clear hB8 HW5 HRM HGM
        generalize hr : w4.heap.size = r at *
        have HRR := Aside0.mk hr
        clear hr
        go_loopw [33] (fun v33 wr => ∃ j : Nat, v33 = .int .i64 j ∧ j ≤ l1.length ∧ Aside0 ((l1.take j).Nodup) ∧ Aside0 (Below r w4 wr) ∧ Aside0 (wr.heap[B8]? = some (.cells #[.slice (some ⟨r, 0, none⟩) a0_0.toNat a0_0.toNat] 37 (0, 0))) ∧
          Aside0 (Kd.R Kd.bool 4 wr r (fun _ => True) (.slice (some ⟨r, 0, none⟩) a0_0.toNat a0_0.toNat) (marksOf a0_0.toNat (l1.take j)))) (fun v33 wr => l1.length - (intOf v33).toNat)
        case atStart => exact ⟨0, rfl, Nat.zero_le _, ⟨by simp⟩, HB5, HBX, by simpa [marksOf, setMarks] using HR5⟩
        case round =>
          obtain ⟨j, rfl, hj, HN, HB, HX, HR⟩ := hrel
          have hcb := hb_at HX.out 0
          simp only [List.getElem?_toArray, List.getElem?_cons_zero] at hcb
          by_cases hjl : j < l1.length
          · have hjl' : (j : Int) < (l1.length : Int) := by omega
            have hj0 : (0 : Int) ≤ (j : Int) := by omega
            have hL : Kd.C (Kd.int .i64) wr A1 l1.length l1 := Kd.C_below hL4 (by rw [HRR.out]; exact HB.out)
            obtain ⟨b1, off1, e1, hcv⟩ := hb_cell hL j hjl
            subst e1
            have hvm : l1.getD j 0 = l1[j] := by rw [List.getD_eq_getElem?_getD, List.getElem?_eq_getElem hjl]; rfl
            have hvr := HRG.out l1[j] (List.getElem_mem hjl)
            have HTK : Aside0 (l1.take (j + 1) = l1.take j ++ [l1[j]]) := ⟨by rw [List.take_add_one, List.getElem?_eq_getElem hjl]; rfl⟩
            rw [hvm] at hcv
            have HMEM : Aside0 (l1[j] ∈ l1) := ⟨List.getElem_mem hjl⟩
            generalize l1[j] = v at hcv hvr HTK HMEM
            obtain ⟨hv0, hv1⟩ := hvr
            have hv2 : v < (a0_0.toNat : Int) := by omega
            obtain ⟨hcm, hfm⟩ := Kd.R_celln false HR.out v hv0 hv2
            have HPUT := Aside0.mk (Kd.R_putg HR.out v true)
            have hrm : rdOf false (marksOf a0_0.toNat (l1.take j)) v = (l1.take j).contains v := by
              rw [← marksOf_at (fun x hx => by have := HRG.out x (List.mem_of_mem_take hx); omega) v hv0 hv2]
              rfl
            rw [hrm] at hcm
            clear hrm hvm hL
            cases hcon : (l1.take j).contains v with
            | true =>
              rw [hcon] at hcm
              have hnd : ¬ l1.Nodup := by
                intro hn
                have h2 : (l1.take (j + 1)).Nodup := hn.sublist (List.take_sublist _ _)
                rw [HTK.out, List.nodup_append] at h2
                exact h2.2.2 v (List.contains_iff_mem.1 hcon) v (by simp) rfl
              rw [if_pos hnd] at h
              obtain ⟨rfl, rfl⟩ := Prod.mk.inj h
              clear hcon hnd
              go_wp2
              go_ret2
              exact ⟨_, rfl, Kd.R_nil _ _ _ _ _, hB4.trans (HB.out.mono (by omega))⟩
            | false =>
              rw [hcon] at hcm
              have HCN := Aside0.mk hcon
              clear hcon
              go_wp2
              go_roundw
              case rel =>
                refine ⟨j + 1, by simp, hjl, ⟨?_⟩, ⟨HB.out.setCell (p := ⟨r, v.toNat, none⟩) (Nat.le_refl _) _⟩, ⟨?_⟩, ⟨?_⟩⟩
                · rw [HTK.out, List.nodup_append]
                  refine ⟨HN.out, by simp, ?_⟩
                  rintro x hx y hy rfl
                  rw [List.mem_singleton.1 hy] at hx
                  have := HCN.out
                  rw [List.contains_iff_mem.2 hx] at this
                  cases this
                · exact (HPUT.out.2.block B8 (blk_lt HX.out) (by simp; omega)).trans HX.out
                · have e : marksOf a0_0.toNat (l1.take (j + 1)) = (marksOf a0_0.toNat (l1.take j)).set v.toNat true := by
                    rw [HTK.out]; simp [marksOf, setMarks]
                  rw [e]
                  exact HPUT.out.1
              case measure => simp [intOf]; omega
          · have hjl' : ¬ (j : Int) < (l1.length : Int) := by omega
            have hjj : l1.take j = l1 := List.take_of_length_le (by omega)
            rw [hjj] at HN HR
            rw [if_neg (by simpa using HN.out)] at h
            obtain ⟨rfl, rfl⟩ := Prod.mk.inj h
            have hq0' := hb_at ((HB.out.block w.heap.size (by omega)).trans hb04) 0
            have hq1' := hb_at ((HB.out.block w.heap.size (by omega)).trans hb04) 1
            simp only [List.getElem?_toArray, List.getElem?_cons_zero, List.getElem?_cons_succ] at hq0' hq1'
            obtain ⟨kr, hraw⟩ := grow_sides_at g
            have hlen := rawSides_len g
            have hrl' := rawSides_length a0_0 l0_1
            have hS := grow_sides.calls kr a0_0 A0_1 c0_1 l0_1 _ wr (Kd.C_below hC4 (by rw [HRR.out]; exact HB.out)) hc0_1 (fun l hl => by have := hlen l hl; omega) (by rw [hrl']; omega) hraw
            have HSS := Aside0.mk hS
            clear hraw hlen hrl' hS hC4
            go_wp2_with fail
            refine HSS.out.mono ?_
            rintro e w6 ⟨v6, rfl, hS6, hB6⟩
            clear HSS
            replace hS6 : Kd.S (Kd.slice 3 (Kd.int .i64)) 28 w6 wr.heap.size (fun _ => True) v6 (nbG a0_0 l0_1) := hS6
            obtain ⟨A6, c6, e6⟩ := Kd.S_slice hS6
            subst e6
            have hnl := nbG_length a0_0 l0_1
            rw [hnl] at hS6
            have HC6 : Aside0 (Kd.C (Kd.slice 3 (Kd.int .i64)) w6 A6 (nbG a0_0 l0_1).length (nbG a0_0 l0_1)) := ⟨(Kd.S_reads' hS6).2.2⟩
            have hwr : r ≤ wr.heap.size := by
              have := HB.out.size
              rw [HRR.out] at this
              exact this
            have HB6 : Aside0 (Below w.heap.size w w6) := ⟨(hB4.trans (HB.out.mono (by omega))).trans (hB6.mono (by omega))⟩
            have HX6 : Aside0 (w6.heap[B8]? = some (.cells #[.slice (some ⟨r, 0, none⟩) a0_0.toNat a0_0.toNat] 37 (0, 0))) := ⟨(hB6.block _ (blk_lt HX.out)).trans HX.out⟩
            have HR6 : Aside0 (Kd.R Kd.bool 4 w6 r (fun _ => True) (.slice (some ⟨r, 0, none⟩) a0_0.toNat a0_0.toNat) (marksOf a0_0.toNat l1)) := ⟨Kd.R_below HR.out hB6⟩
            have hq06 : w6.cell? ⟨w.heap.size, 0, none⟩ = some (.int .i64 a0_0) := (World.cell?_of_block (hB6.block w.heap.size (by omega))).trans hq0'
            have hsz6 : wr.heap.size ≤ w6.heap.size := hB6.size
            clear hq0' hq1' hq0 hS6 hB6 HX HR HB hB4 hL4 hb04 hcb
            have HNL := Aside0.mk hnl
            clear hnl
            go_wp2
            go_loopw [12, 49] (fun v12 v49 W => ∃ j : Nat, v49 = .int .i64 j ∧ j ≤ a0_0.toNat ∧ Aside0 (Kd.R (Kd.int .i64) 3 W w6.heap.size (fun _ => True) v12 (ringUpto (nbG a0_0 l0_1) (marksOf a0_0.toNat l1) j)) ∧ Aside0 (Below w6.heap.size w6 W)) (fun v12 v49 W => a0_0.toNat - (intOf v49).toNat)
            case atStart => exact ⟨0, rfl, Nat.zero_le _, ⟨Kd.R_nil _ _ _ _ _⟩, ⟨Below.refl _ _⟩⟩
            case round =>
              obtain ⟨i, rfl, hi, HO, HW⟩ := hrel
              clear hq06
              obtain ⟨A12, c12, e12⟩ := Kd.R_slice HO.out
              subst e12
              by_cases hil : i < a0_0.toNat
              · have hil' : (i : Int) < a0_0 := by omega
                have hil2 : (i : Int) < (a0_0.toNat : Int) := by omega
                have hi0 : (0 : Int) ≤ (i : Int) := by omega
                have hcb := hb_at ((HW.out.block B8 (blk_lt HX6.out)).trans HX6.out) 0
                simp only [List.getElem?_toArray, List.getElem?_cons_zero] at hcb
                have HRW := Aside0.mk (Kd.R_below HR6.out HW.out)
                obtain ⟨hcm, -⟩ := Kd.R_celln false HRW.out (i : Int) hi0 hil2
                have hrm : rdOf false (marksOf a0_0.toNat l1) (i : Int) = isIn (marksOf a0_0.toNat l1) (i : Int) := rfl
                rw [hrm, Int.toNat_natCast] at hcm
                have HSUC := Aside0.mk (ringUpto_succ (nbG a0_0 l0_1) (marksOf a0_0.toNat l1) i)
                cases hin : isIn (marksOf a0_0.toNat l1) (i : Int) with
                | true =>
                  rw [hin] at hcm
                  have HIN := Aside0.mk hin
                  clear hin hrm
                  go_wp2
                  go_roundw
                  case rel =>
                    refine ⟨i + 1, by simp, hil, ?_, HW⟩
                    have e : ringAt (nbG a0_0 l0_1) (marksOf a0_0.toNat l1) (i : Int) = false := by simp [ringAt, HIN.out]
                    rw [HSUC.out, e]
                    simpa using HO
                  case measure => simp [intOf]; omega
                | false =>
                  rw [hin] at hcm
                  have HIN := Aside0.mk hin
                  clear hin hrm
                  have hnl2 : i < (nbG a0_0 l0_1).length := by rw [HNL.out]; exact hil
                  obtain ⟨ad, A0, c0, eA, hcr, hl0, hC0⟩ := hb_row (Kd.C_below HC6.out HW.out) i hnl2
                  subst eA
                  have hrows := nbG_rows g ((nbG a0_0 l0_1).getD i []) (by
                    rw [List.getD_eq_getElem?_getD, List.getElem?_eq_getElem hnl2]
                    exact List.getElem_mem hnl2)
                  have HRA : Aside0 (ringAt (nbG a0_0 l0_1) (marksOf a0_0.toNat l1) (i : Int) = ((nbG a0_0 l0_1).getD i []).any (isIn (marksOf a0_0.toNat l1))) := ⟨by simp [ringAt, HIN.out]⟩
                  generalize (nbG a0_0 l0_1).getD i [] = row at *
                  have eg2 : ∀ args w, (callFunc 30 args).run Try.prog w = .ok (.enter 30 args) w := enters_of Try.func30 (by kernel_rfl) rfl
                  have hN0 : 0 < a0_0.toNat := by omega
                  letI : Inhabited (Fin a0_0.toNat) := ⟨⟨0, hN0⟩⟩
                  have hcells : ∀ q (hq : q < (marksOf a0_0.toNat l1).length), wr.cell? ⟨r, q, none⟩ = some (.bool (marksOf a0_0.toNat l1)[q]) := by
                    intro q hq
                    have hq' : q < a0_0.toNat := by simpa [marksOf, setMarks_length] using hq
                    have := (Kd.R_celln false HRW.out (q : Int) (by omega) (by omega)).1
                    rw [Int.toNat_natCast] at this
                    rw [this]
                    simp [rdOf, List.getD_eq_getElem?_getD, hq]
                  have hcon := contains_ints (α := Fin a0_0.toNat) (fun x => (x.val : Int)) (fun x => isIn (marksOf a0_0.toNat l1) (x.val : Int)) (isIn (marksOf a0_0.toNat l1)) 30 #[.pointer (some ⟨B8, 0, none⟩)] eg2 wr A0 c0
                    (row.map fun u => if hu : u.toNat < a0_0.toNat then ⟨u.toNat, hu⟩ else default) row (by
                      rw [List.map_map]
                      conv => rhs; rw [← List.map_id row]
                      refine List.map_congr_left fun u hu => ?_
                      have := hrows.2 u hu
                      have h1 : u.toNat < a0_0.toNat := by omega
                      simp only [Function.comp_apply, h1, dif_pos, id_eq]
                      omega)
                    (ring2_pred a0_0.toNat B8 r a0_0.toNat (marksOf a0_0.toNat l1) (by simp [marksOf, setMarks_length]) wr hcb hcells) (fun x _ => rfl) hC0 (by have := hrows.1; omega)
                  have HCON := Aside0.mk hcon
                  clear hcon hcells eg2 hrows hC0
                  have hnl3 : (i : Int) < ((nbG a0_0 l0_1).length : Int) := by omega
                  go_wp2_with fail
                  refine HCON.out.mono ?_
                  rintro e W' ⟨rfl, m, rfl⟩
                  clear HCON
                  have HRA' := HRA.out
                  generalize row.any (isIn (marksOf a0_0.toNat l1)) = any at HRA'
                  have HO' := Aside0.mk (Kd.R_drewN HO.out m)
                  have HW' := Aside0.mk (pw_below_drewN HW.out m)
                  clear HO HW HRW HRA
                  generalize wr.drewN m = W' at HO' HW'
                  have HRA := Aside0.mk HRA'
                  clear HRA'
                  cases any with
                  | false =>
                    go_wp2
                    go_roundw
                    case rel =>
                      refine ⟨i + 1, by simp, hil, ?_, HW'⟩
                      rw [HSUC.out, HRA.out]
                      simpa using HO'
                    case measure => simp [intOf]; omega
                  | true =>
                    have hlen12 : (ringUpto (nbG a0_0 l0_1) (marksOf a0_0.toNat l1) i).length ≤ i := Nat.le_trans (List.length_filter_le _ _) (by simp)
                    have HL12 := Aside0.mk hlen12
                    clear hlen12
                    go_wp2_with ((with_reducible refine gate_builtin (b := .append) (xs := #[.tmp 65, .tmp 67]) rfl ?_); at_builtin; refine Kd.R_append (Kd.int .i64) (w0 := w6) w6.heap.size rfl (.tmp 65) (.tmp 67) 28 3 (.int .i64 0) 8 rfl Try.underlying28 info3 rfl (by decide) (by omega) (.slice A12 (ringUpto (nbG a0_0 l0_1) (marksOf a0_0.toNat l1) i).length c12) (ringUpto (nbG a0_0 l0_1) (marksOf a0_0.toNat l1) i) (i : Int) [.int .i64 (i : Int)] (fun _ => True) (fun _ => False) rfl rfl (by exact rfl) (fun _ hk => hk.elim) (fun _ _ => trivial) HO'.out HW'.out HW'.out.size (by have := HL12.out; omega) ?_; intro v9 w9 ho hb hg hat; have HO9 := Aside0.mk ho; have HW9 := Aside0.mk hb; clear ho hb hg hat)
                    go_roundw
                    case rel =>
                      refine ⟨i + 1, by simp, hil, ⟨?_⟩, HW9⟩
                      rw [HSUC.out, HRA.out]
                      simpa using HO9.out
                    case measure => simp [intOf]; omega
              · have hil' : ¬ (i : Int) < a0_0 := by omega
                have hie : i = a0_0.toNat := by omega
                go_wp2
                go_ret2
                refine ⟨_, rfl, ?_, HB6.out.trans (HW.out.mono (by have := HB6.out.size; omega))⟩
                have := Kd.R_lower HO.out HB6.out.size
                rw [hie] at this
                exact this
  · rw [if_pos h0] at h
    obtain ⟨rfl, rfl⟩ := Prod.mk.inj h
    have hd : decide (E = 0) = false := by simpa using h0
    go_wp2
    go_ret2
    exact ⟨_, rfl, Kd.R_nil _ _ _ _ _, hB3'⟩
end Go.Proofs.Ytihaddejjgaepaa.G

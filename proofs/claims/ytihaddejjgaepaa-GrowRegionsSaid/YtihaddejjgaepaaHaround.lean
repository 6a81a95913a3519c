/- grow.around: its iterator hands out the vertices around a centre, nearest first: the contract in the words of Hrange. -/
import Derived.Test.YtihaddejjgaepaaHrange
import Derived.RangeFuncNested
import Derived.RangeFuncBound
import Derived.RangeFuncCalls
import Derived.Shelf.Abstract
import Derived.Shelf.RegionOpen
import Derived.OwnWalkIn
import Derived.TacticsInMore
import Derived.LoopNIn
import Derived.LoopIn
namespace Go.Proofs.Ytihaddejjgaepaa.G
set_option linter.unusedVariables false
set_option linter.unusedSimpArgs false
open Go.RowKit Go.Shelf Go.Proofs.YtihaddejjgaepaaW.PrintWords Go.Proofs.YtihaddejjgaepaaW.PrintLast Go.Proofs.YtihaddejjgaepaaW.PrintMore

attribute [local go_sem] Oper.semAt_some

/-! ### the plain function -/
def nbAt (nb : List (List Int)) (v : Int) : List Int := nb.getD v.toNat []
def isIn (ins : List Bool) (v : Int) : Bool := ins.getD v.toNat false
/-- The neighbours that aren't in yet get in, and behind the queue. -/
def addNb (ins : List Bool) (q : List Int) : List Int → List Bool × List Int
  | [] => (ins, q)
  | u :: us => if isIn ins u = true then addNb ins q us else addNb (ins.set u.toNat true) (q ++ [u]) us
/-- What the iterator hands out from a queue on, and what is in then. -/
def arnd (nb : List (List Int)) : Nat → List Bool → List Int → List Int × List Bool
  | 0, ins, _ => ([], ins)
  | _ + 1, ins, [] => ([], ins)
  | k + 1, ins, v :: q => (v :: (arnd nb k (addNb ins q (nbAt nb v)).1 (addNb ins q (nbAt nb v)).2).1, (arnd nb k (addNb ins q (nbAt nb v)).1 (addNb ins q (nbAt nb v)).2).2)
def outs (ins : List Bool) : Nat := ins.countP (fun b => !b)
def aroundL (nb : List (List Int)) (ins : List Bool) (c : Int) : List Int × List Bool := arnd nb (outs (ins.set c.toNat true) + 1) (ins.set c.toNat true) [c]

theorem outs_set (ins : List Bool) (j : Nat) (h : j < ins.length) (hf : ins[j] = false) : outs (ins.set j true) + 1 = outs ins := by
  unfold outs
  rw [List.countP_set h]
  have : 0 < ins.countP (fun b => !b) := by
    rw [List.countP_pos_iff]
    exact ⟨ins[j], List.getElem_mem h, by simp [hf]⟩
  simp [hf]
  omega
theorem addNb_length (us : List Int) : ∀ (ins : List Bool) (q : List Int), (addNb ins q us).1.length = ins.length := by
  induction us with
  | nil => intro ins q; rfl
  | cons u us ih =>
    intro ins q
    simp only [addNb]
    split
    · exact ih _ _
    · rw [ih, List.length_set]
/-- What is out, and the queue's length, are as many together. -/
theorem addNb_outs (us : List Int) : ∀ (ins : List Bool) (q : List Int), (∀ u ∈ us, 0 ≤ u ∧ u < ins.length) → outs (addNb ins q us).1 + (addNb ins q us).2.length = outs ins + q.length := by
  induction us with
  | nil => intro ins q _; rfl
  | cons u us ih =>
    intro ins q h
    simp only [addNb]
    have hu := h u (by simp)
    have hus : ∀ v ∈ us, 0 ≤ v ∧ v < ins.length := fun v hv => h v (by simp [hv])
    split
    · exact ih _ _ hus
    · rename_i hf
      have hlt : u.toNat < ins.length := by omega
      rw [ih _ _ (by simpa using hus), List.length_append, List.length_singleton]
      have := outs_set ins u.toNat hlt (by simpa [isIn, List.getD_eq_getElem?_getD, hlt] using hf)
      omega
theorem addNb_range (us : List Int) (n : Nat) : ∀ (ins : List Bool) (q : List Int), (∀ u ∈ us, 0 ≤ u ∧ u < (n : Int)) → (∀ u ∈ q, 0 ≤ u ∧ u < (n : Int)) → ∀ u ∈ (addNb ins q us).2, 0 ≤ u ∧ u < (n : Int) := by
  induction us with
  | nil => intro ins q _ h; exact h
  | cons u us ih =>
    intro ins q h hq
    simp only [addNb]
    split
    · exact ih _ _ (fun v hv => h v (by simp [hv])) hq
    · exact ih _ _ (fun v hv => h v (by simp [hv])) (fun v hv => by
        rcases List.mem_append.1 hv with hv | hv
        · exact hq v hv
        · rw [List.mem_singleton.1 hv]; exact h u (by simp))

/-! ### the walk -/
/-- How many marks of a row aren't set, read off the world. -/
def outsAt (W : World) (r n : Nat) : Nat := (List.range n).countP fun j => match W.cell? ⟨r, j, none⟩ with
  | some (.bool false) => true
  | _ => false
def lenOf : Value → Nat
  | .slice _ n _ => n
  | _ => 0
theorem outsAt_of {W : World} {base : Nat} {ok : Nat → Prop} {r cap : Nat} {ins : List Bool} {n : Nat} (h : Kd.R Kd.bool 4 W base ok (.slice (some ⟨r, 0, none⟩) n cap) ins) : outsAt W r n = outs ins := by
  obtain ⟨rfl, _, _⟩ := Kd.R_reads' h
  have key : ∀ j (hj : j < ins.length), W.cell? ⟨r, j, none⟩ = some (.bool ins[j]) := by
    intro j hj
    have := (Kd.R_celln false h (j : Int) (by omega) (by omega)).1
    rw [Int.toNat_natCast] at this
    rw [this]
    simp [rdOf, List.getD_eq_getElem?_getD, hj]
  unfold outsAt outs
  have : ins = (List.range ins.length).map (fun j => ins.getD j false) := by
    apply List.ext_getElem
    · simp
    · intro i h1 h2
      simp [List.getD_eq_getElem?_getD, h1]
  conv => rhs; rw [this]
  rw [List.countP_map]
  refine List.countP_congr fun j hj => ?_
  have hj' := List.mem_range.1 hj
  rw [key j hj']
  simp only [Function.comp_apply, List.getD_eq_getElem?_getD, List.getElem?_eq_getElem hj', Option.getD_some]
  cases ins[j] <;> simp

theorem wpListIn_append_run {F : Fence} {n : Nat} {P : Program} {w w' : World} {ops : Array Oper} {rest : List Oper} {o : Oper} {a : Act} {Q : Exit → Act → World → Prop} {v' : Value}
    (hg : o.guard = none) (s x : Operand) (t : TypeId) (hop : o.op = Op.call { callee := Callee.builtin Builtin.append, args := #[s, x], argTypes := #[t, t] }) (v y : Value) (hs : a.eval s = v) (hx : a.eval x = y)
    (hrun : (Builtin.append_ #[t, t] o.type #[v, y]).run P w = .ok v' w') (hK : wpListIn F n P ops Q rest (a.put o.dst v') w') : wpListIn F n P ops Q (o :: rest) a w := by
  refine wpListIn_plain hg fun K hK' => ?_
  unfold Oper.wpIn
  refine ⟨?_, ?_⟩
  · simp [Oper.about, hop, resolve, Target.leads, Sem.run_pure]
  · rw [Oper.semAt_plain F _ _ (by rw [hop]; intro c hc'; cases hc')]
    simp [execOp, hop, resolve, invoke, builtin, hs, hx, hrun, Result.andThen]
    exact hK' _ _ hK

/-- A halt of the walk at an append. -/
structure Hold (p : Prop) : Prop where
  out : p
theorem wpListIn_at_append {F : Fence} {n : Nat} {P : Program} {w : World} {ops : Array Oper} {rest : List Oper} {o : Oper} {a : Act} {Q : Exit → Act → World → Prop} {args : Array Operand} {ts : Array TypeId}
    (_hop : o.op = Op.call { callee := Callee.builtin Builtin.append, args := args, argTypes := ts }) (h : Hold (wpListIn F n P ops Q (o :: rest) a w)) : wpListIn F n P ops Q (o :: rest) a w := h.out

/-- What the iterator reads between two rounds, but for its marks and its queue. -/
structure AMem (o r bi bb capr cb N : Nat) (nb : List (List Int)) (A : Option Addr) (Pk : Nat → Prop) (n₁ : Nat) (W : World) : Prop where
  size : n₁ ≤ W.heap.size
  box1 : W.cell? ⟨bi, 0, none⟩ = some (.slice (some ⟨r, 0, none⟩) N capr)
  box3 : W.cell? ⟨bb, 0, none⟩ = some (.slice A nb.length cb)
  nbs : Kd.F (Kd.slice 3 (Kd.int .i64)) W Pk A nb.length nb
  cells : ∀ k, (k = r ∨ k = bi ∨ k = bb ∨ Pk k) → ∃ cs e fr, W.heap[k]? = some (.cells cs e fr)
  sep : ∀ k, (k = r ∨ k = bi ∨ k = bb ∨ Pk k) → k < n₁ ∧ k ≠ o ∧ ¬ OutRow o W k
  far : ∀ k, (k = bi ∨ k = bb ∨ Pk k) → k ≠ r
  out : o < n₁ ∧ ∀ k, OutRow o W k → k < W.heap.size
  list : ∀ ad, A = some ad → Pk ad.block

theorem AMem.keep {o r bi bb capr cb N : Nat} {nb : List (List Int)} {A : Option Addr} {Pk : Nat → Prop} {n₁ : Nat} {W W' : World} (h : AMem o r bi bb capr cb N nb A Pk n₁ W) (hs : W.heap.size ≤ W'.heap.size)
    (hk : ∀ k, (k = bi ∨ k = bb ∨ Pk k) → W'.heap[k]? = W.heap[k]?) (hr : ∃ cs e fr, W'.heap[r]? = some (.cells cs e fr)) (hout : ∀ k, OutRow o W' k → OutRow o W k ∨ (W.heap.size ≤ k ∧ k < W'.heap.size)) : AMem o r bi bb capr cb N nb A Pk n₁ W' where
  size := Nat.le_trans h.size hs
  box1 := (World.cell?_of_block (hk bi (.inl rfl))).trans h.box1
  box3 := (World.cell?_of_block (hk bb (.inr (.inl rfl)))).trans h.box3
  nbs := fun W2 h2 => h.nbs W2 (fun k hp hlt => (h2 k hp (Nat.lt_of_lt_of_le hlt hs)).trans (hk k (.inr (.inr hp))))
  cells := fun k hp => hp.elim (fun e => e ▸ hr) (fun hp => by rw [hk k hp]; exact h.cells k (.inr hp))
  sep := fun k hp => ⟨(h.sep k hp).1, (h.sep k hp).2.1, fun ho => (hout k ho).elim (h.sep k hp).2.2 (fun h2 => by have := (h.sep k hp).1; have := h.size; omega)⟩
  far := h.far
  out := ⟨h.out.1, fun k ho => (hout k ho).elim (fun h2 => Nat.lt_of_lt_of_le (h.out.2 k h2) hs) (fun h2 => h2.2)⟩
  list := h.list

theorem AMem.step {o r bi bb capr cb N : Nat} {nb : List (List Int)} {A : Option Addr} {Pk : Nat → Prop} {n₁ : Nat} {W W' : World} {row : Option Nat} (h : AMem o r bi bb capr cb N nb A Pk n₁ W) (hg : W.grownBy W' row)
    (hrow : ∀ k, row = some k → k = r ∨ n₁ ≤ k) (hr : ∃ cs e fr, W'.heap[r]? = some (.cells cs e fr)) : AMem o r bi bb capr cb N nb A Pk n₁ W' := by
  have ho : W'.heap[o]? = W.heap[o]? := hg.block o (Nat.lt_of_lt_of_le h.out.1 h.size) (fun e => by
    rcases hrow o e.symm with h1 | h1
    · exact (h.sep r (.inl rfl)).2.1 h1.symm
    · have := h.out.1; omega)
  refine h.keep hg.size (fun k hp => ?_) hr (fun k hk => .inl ((OutRow.of_box ho).1 hk))
  have hlt := (h.sep k (.inr hp)).1
  refine hg.block k (by have := h.size; omega) (fun e => ?_)
  rcases hrow k e.symm with h1 | h1
  · exact h.far k hp h1
  · omega

theorem AMem.round {o r bi bb capr cb N : Nat} {nb : List (List Int)} {A : Option Addr} {Pk : Nat → Prop} {n₁ : Nat} {W W' : World} (h : AMem o r bi bb capr cb N nb A Pk n₁ W) (hk : RoundK o W W') : AMem o r bi bb capr cb N nb A Pk n₁ W' := by
  have key : ∀ k, (k = r ∨ k = bi ∨ k = bb ∨ Pk k) → W'.heap[k]? = W.heap[k]? := fun k hp => by
    obtain ⟨cs, e, fr, hc⟩ := h.cells k hp
    exact hk.same k cs e fr hc (h.sep k hp).2.1 (h.sep k hp).2.2
  exact h.keep hk.size (fun k hp => key k (.inr hp)) (by rw [key r (.inl rfl)]; exact h.cells r (.inl rfl)) hk.row

theorem AMem.row_kept {o r bi bb capr cb N : Nat} {nb : List (List Int)} {A : Option Addr} {Pk : Nat → Prop} {n₁ : Nat} {W W' : World} (h : AMem o r bi bb capr cb N nb A Pk n₁ W) (hk : RoundK o W W') : W'.heap[r]? = W.heap[r]? := by
  obtain ⟨cs, e, fr, hc⟩ := h.cells r (.inl rfl)
  exact hk.same r cs e fr hc (h.sep r (.inl rfl)).2.1 (h.sep r (.inl rfl)).2.2

theorem addNb_cons (v : Int) (us : List Int) : ∀ (ins : List Bool) (q : List Int), addNb ins (v :: q) us = ((addNb ins q us).1, v :: (addNb ins q us).2) := by
  induction us with
  | nil => intro ins q; rfl
  | cons u us ih =>
    intro ins q
    simp only [addNb]
    split
    · exact ih _ _
    · rw [List.cons_append]; exact ih _ _
theorem addNb_append (us vs : List Int) : ∀ (ins : List Bool) (q : List Int), addNb ins q (us ++ vs) = addNb (addNb ins q us).1 (addNb ins q us).2 vs := by
  induction us with
  | nil => intro ins q; rfl
  | cons u us ih =>
    intro ins q
    simp only [List.cons_append, addNb]
    split
    · exact ih _ _
    · exact ih _ _

theorem hb_row {w : World} {A : Option Addr} {n : Nat} {nb : List (List Int)} (h : Kd.C (Kd.slice 3 (Kd.int .i64)) w A n nb) (i : Nat) (h1 : i < n) :
    ∃ ad A0 c0, A = some ad ∧ w.cell? (ad.add i) = some (.slice A0 (nb.getD i []).length c0) ∧ (nb.getD i []).length ≤ c0 ∧ (Kd.int .i64).C w A0 (nb.getD i []).length (nb.getD i []) := by
  obtain ⟨ad, c, e, _, hK, hc0⟩ := Kd.C_get h [] (i : Int) (by omega) (by omega)
  obtain ⟨A0, c0, rfl, l0, g0⟩ := hK
  have := hc0 0 _ rfl
  rw [Int.toNat_natCast] at this
  exact ⟨ad, A0, c0, e, by simpa [Kd.slice] using this, l0, g0⟩
theorem hb_cell {k : IntKind} {w : World} {A : Option Addr} {n : Nat} {l : List Int} (h : Kd.C (Kd.int k) w A n l) (j : Nat) (hj : j < n) : ∃ b off, A = some ⟨b, off, none⟩ ∧ w.cell? ⟨b, off + j, none⟩ = some (.int k (l.getD j 0)) := by
  obtain ⟨b, off, hA, hc⟩ := hb_plain h (by omega)
  exact ⟨b, off, hA, hc j (by have := h.1; omega)⟩
theorem hb_block {w : World} {b : Nat} {v : Value} (h : w.cell? ⟨b, 0, none⟩ = some v) : ∃ cs e fr, w.heap[b]? = some (.cells cs e fr) := by
  unfold World.cell? at h
  cases hh : w.heap[b]? with
  | none => simp [hh] at h
  | some x => cases x <;> simp [hh] at h ⊢
theorem hb_fresh {k : IntKind} {t : Nat} (W : World) (c : Int) : Kd.R (Kd.int k) t (W.alloc (.cells #[.int k c] t)) W.heap.size (fun _ => True) (.slice (some ⟨W.heap.size, 0, none⟩) 1 1) [c] :=
  hb_mk (xs := [c]) (Nat.le_refl _) trivial (World.alloc_heap_new W _) (by simp) (by simp [maxLen]) (by simp) (by simp)
theorem grownBy_drew (W : World) (row : Option Nat) : W.grownBy W.drew row := ⟨rfl, rfl, rfl, Nat.le_refl _, fun _ _ _ => rfl⟩
theorem arnd_nil (nb : List (List Int)) (k : Nat) (ins : List Bool) : arnd nb k ins [] = ([], ins) := by cases k <;> rfl

set_option maxRecDepth 100000 in
set_option maxHeartbeats 2000000 in
theorem around_seq (n : Nat) (hn1 : 1 ≤ n) (o r bi bc bb capr cb base : Nat) (ins : List Bool) (nb : List (List Int)) (A : Option Addr) (c : Int) (Pk : Nat → Prop) (W : World)
    (hbi : W.cell? ⟨bi, 0, none⟩ = some (.slice (some ⟨r, 0, none⟩) ins.length capr)) (hbc : W.cell? ⟨bc, 0, none⟩ = some (.int .i64 c)) (hbb : W.cell? ⟨bb, 0, none⟩ = some (.slice A nb.length cb))
    (hnb : Kd.F (Kd.slice 3 (Kd.int .i64)) W Pk A nb.length nb) (hPk : ∀ k, Pk k → ∃ cs e fr, W.heap[k]? = some (.cells cs e fr)) (hA : ∀ ad, A = some ad → Pk ad.block) (ho : o < W.heap.size ∧ ∀ k, OutRow o W k → k < W.heap.size)
    (hin : Kd.R Kd.bool 4 W base (fun _ => True) (.slice (some ⟨r, 0, none⟩) ins.length capr) ins)
    (hsep : ∀ k, (k = r ∨ k = bi ∨ k = bc ∨ k = bb ∨ Pk k) → k ≠ o ∧ ¬ OutRow o W k) (hr : ∀ k, (k = bi ∨ k = bc ∨ k = bb ∨ Pk k) → k ≠ r)
    (hc0 : 0 ≤ c) (hc1 : c < ins.length) (hN : nb.length = ins.length) (hn : ins.length ≤ 1024) (hrows : ∀ row ∈ nb, row.length ≤ 1048576 ∧ ∀ u ∈ row, 0 ≤ u ∧ u < (ins.length : Int)) :
    SeqR n Try.prog 36 #[.pointer (some ⟨bi, 0, none⟩), .pointer (some ⟨bc, 0, none⟩), .pointer (some ⟨bb, 0, none⟩)] o r (aroundL nb ins c).1
      (fun W' => Kd.R Kd.bool 4 W' base (fun _ => True) (.slice (some ⟨r, 0, none⟩) ins.length capr) (aroundL nb ins c).2) W := by
  generalize hfull : (aroundL nb ins c).1 = full
  generalize hinsF : (aroundL nb ins c).2 = insF
  have HFULL := Aside0.mk (show (arnd nb (outs (ins.set c.toNat true) + 1) (ins.set c.toNat true) [c]).1 = full from hfull)
  have HFIN := Aside0.mk (show (arnd nb (outs (ins.set c.toNat true) + 1) (ins.set c.toNat true) [c]).2 = insF from hinsF)
  clear hfull hinsF
  intro l J Jx W1 hW1 hJ hJx hY h0
  have hkeep : ∀ k, k < W.heap.size → W1.heap[k]? = W.heap[k]? := fun k hk => hW1.block k hk (by simp)
  have cellk : ∀ {b : Nat} {v : Value}, W.cell? ⟨b, 0, none⟩ = some v → W1.cell? ⟨b, 0, none⟩ = some v := fun h => (World.cell?_of_block (hkeep _ (World.block_lt_of_cell? W _ h))).trans h
  have hbi1 := cellk hbi
  have hbc1 := cellk hbc
  have hbb1 := cellk hbb
  have hin1 := Kd.R_step (w1 := W1) hin (fun k _ hk => hkeep k hk)
  obtain ⟨hci, hfi⟩ := Kd.R_celln false hin1 c hc0 hc1
  have hput := Kd.R_putg hin1 c true
  obtain ⟨v0, hv0⟩ : ∃ v0, W1.cell? ⟨r, c.toNat, none⟩ = some v0 := ⟨_, hci⟩
  have HPUT := Aside0.mk hput
  have HIN1 := Aside0.mk hin1
  have hne : bc ≠ r := hr bc (by simp)
  clear hput hin1 hin hci
  refine callsIn_of_wp Try.func36 rfl trivial ?_
  simp only [Try.ntmps36, List.size_toArray, List.length_cons, List.length_nil, Nat.reduceAdd, Nat.reduceSub, Array.replicate_succ, Array.replicate_zero, List.push_toArray, List.append_toArray, List.nil_append, List.cons_append]
  gi_wp2
  gi_loopw [5] (fun v5 wr => ∃ (pre q : List Int) (ins' : List Bool) (k : Nat), Aside0 (J pre wr) ∧ Aside0 (AMem o r bi bb capr cb ins.length nb A Pk W1.heap.size wr) ∧ Aside0 (Kd.R Kd.bool 4 wr base (fun _ => True) (.slice (some ⟨r, 0, none⟩) ins.length capr) ins') ∧
      Aside0 (Kd.Q (Kd.int .i64) 3 wr W1.heap.size (fun _ => True) v5 q) ∧ Aside0 (∀ k, v5.ownBlock = some k → ¬ OutRow o wr k) ∧ Aside0 (full = pre ++ (arnd nb k ins' q).1 ∧ insF = (arnd nb k ins' q).2) ∧ Aside0 (k = outs ins' + q.length ∧ k ≤ 1025 ∧ ∀ u ∈ q, 0 ≤ u ∧ u < (ins.length : Int)))
    (fun v5 wr => outsAt wr r ins.length + lenOf v5)
  case atStart =>
    have hr1 : ∃ cs e fr, (W1.setCell ⟨r, c.toNat, none⟩ (.bool true)).heap[r]? = some (.cells cs e fr) := by
      obtain ⟨cells, h⟩ := Kd.R_typed HPUT.out.1 r rfl
      exact ⟨_, _, _, h⟩
    have ho1 : ∀ k, OutRow o W1 k ↔ OutRow o W k := fun k => OutRow.of_box (hkeep o ho.1)
    have hlt : ∀ k, Pk k → k < W.heap.size := fun k hk => by
      obtain ⟨cs, e, fr, h⟩ := hPk k hk
      exact (Array.getElem?_eq_some_iff.1 h).1
    have hs1 : W.heap.size ≤ W1.heap.size := hW1.size
    have hcel : ∀ {b : Nat} {v : Value}, W1.cell? ⟨b, 0, none⟩ = some v → ∃ cs e fr, W1.heap[b]? = some (.cells cs e fr) := fun h => hb_block h
    have hrlt : r < W1.heap.size := Kd.R_lt HIN1.out r rfl
    have hrc : ∃ cs e fr, W1.heap[r]? = some (.cells cs e fr) := by
      obtain ⟨cells, h⟩ := Kd.R_typed HIN1.out r rfl
      exact ⟨_, _, _, h⟩
    have HM0 : AMem o r bi bb capr cb ins.length nb A Pk W1.heap.size W1 := {
      size := Nat.le_refl _
      box1 := hbi1
      box3 := hbb1
      nbs := fun W2 h2 => hnb W2 (fun k hp hk => (h2 k hp (Nat.lt_of_lt_of_le hk hs1)).trans (hkeep k hk))
      cells := fun k hp => by
        rcases hp with rfl | rfl | rfl | hp
        · exact hrc
        · exact hcel hbi1
        · exact hcel hbb1
        · rw [hkeep k (hlt k hp)]; exact hPk k hp
      sep := fun k hp => by
        have h1 := hsep k (by rcases hp with h | h | h | h <;> simp [h])
        refine ⟨?_, h1.1, fun h2 => h1.2 ((ho1 k).1 h2)⟩
        rcases hp with rfl | rfl | rfl | hp
        · exact hrlt
        · exact World.block_lt_of_cell? W1 _ hbi1
        · exact World.block_lt_of_cell? W1 _ hbb1
        · exact Nat.lt_of_lt_of_le (hlt k hp) hs1
      far := fun k hp => hr k (by rcases hp with h | h | h <;> simp [h])
      out := ⟨Nat.lt_of_lt_of_le ho.1 hs1, fun k hk => Nat.lt_of_lt_of_le (ho.2 k ((ho1 k).1 hk)) hs1⟩
      list := hA }
    have HM1 := HM0.step HPUT.out.2 (fun k e => .inl (Option.some.inj e).symm) hr1
    have hro : r ≠ o := (hsep r (.inl rfl)).1
    have hJ1 : J [] (W1.setCell ⟨r, c.toNat, none⟩ (.bool true)) := hJ [] W1 _ (some r) h0 HPUT.out.2 (fun k e => by
      cases e
      exact ⟨.inl rfl, hro, .inl (fun h => (hsep r (.inl rfl)).2 ((ho1 r).1 h))⟩)
    have hsz : (W1.setCell ⟨r, c.toNat, none⟩ (.bool true)).heap.size = W1.heap.size := by simp
    have hg2 := World.grownBy_alloc (W1.setCell ⟨r, c.toNat, none⟩ (.bool true)) (.cells #[.int .i64 c] 3) none
    have hr2 := Kd.R_alloc HPUT.out.1 (.cells #[.int .i64 c] 3)
    have hbox : ((W1.setCell ⟨r, c.toNat, none⟩ (.bool true)).alloc (.cells #[.int .i64 c] 3)).heap[o]? = W1.heap[o]? := (hg2.block o (by rw [hsz]; exact Nat.lt_of_lt_of_le ho.1 hs1) (by simp)).trans (HPUT.out.2.block o (Nat.lt_of_lt_of_le ho.1 hs1) (by simp [Ne.symm hro]))
    refine ⟨[], [c], ins.set c.toNat true, outs (ins.set c.toNat true) + 1, ⟨hJ.alloc _ hJ1⟩, ⟨HM1.step hg2 (fun k e => by cases e) ?_⟩, ⟨hr2⟩, ⟨?_⟩, ⟨?_⟩, ⟨?_, ?_⟩, ⟨by simp, ?_, ?_⟩⟩
    · obtain ⟨cells, h⟩ := Kd.R_typed hr2 r rfl
      exact ⟨_, _, _, h⟩
    · have := Kd.Q_of_R (hb_fresh (k := .i64) (t := 3) (W1.setCell ⟨r, c.toNat, none⟩ (.bool true)) c)
      rw [hsz] at this
      exact this
    · intro k e hk
      cases e
      have h3 : W1.heap.size < W.heap.size := ho.2 _ ((ho1 _).1 ((OutRow.of_box hbox).1 hk))
      omega
    · rw [List.nil_append]; exact HFULL.out.symm
    · exact HFIN.out.symm
    · have : outs (ins.set c.toNat true) ≤ (ins.set c.toNat true).length := List.countP_le_length
      rw [List.length_set] at this
      omega
    · intro u hu
      rw [List.mem_singleton.1 hu]
      exact ⟨hc0, hc1⟩
  case round =>
    obtain ⟨pre, q, ins', k, HJ, HM, HR, HQ, HS, HF, HK⟩ := hrel
    cases q with
    | nil =>
      obtain ⟨A5, c5, e5, _⟩ := Kd.Q_slice HQ.out
      subst e5
      have hF := HF.out
      rw [arnd_nil] at hF
      obtain ⟨h1, h2⟩ := hF
      simp only [List.append_nil] at h1
      have HJ2 := Aside0.mk (h1.symm ▸ HJ.out)
      have h2' : ins' = insF := h2.symm
      have HR2 := Aside0.mk (h2' ▸ HR.out)
      clear h1 h2 h2' HF HM HS HK HQ HJ HR
      gi_wp2
      go_end0
      exact ⟨⟨_, rfl⟩, .inl ⟨HJ2.out, HR2.out⟩⟩
    | cons v q =>
      obtain ⟨k, rfl⟩ : ∃ m, k = m + 1 := ⟨k - 1, by have := HK.out.1; simp at this; omega⟩
      obtain ⟨g5, o5, c5, e5, hb5, hg5, cells5, hh5⟩ := Kd.Q_form HQ.out (by simp)
      subst e5
      have hcell5 := (Kd.Q_cell 0 HQ.out 0 (by omega) (by simp)).1
      simp only [Int.toNat_zero, Nat.add_zero, rdOf, List.getD_cons_zero] at hcell5
      have HOU : Aside0 (outsAt wr r ins.length = outs ins') := ⟨outsAt_of HR.out⟩
      have hpre : pre ++ [v] <+: full := by
        rw [HF.out.1]
        simp only [arnd]
        exact ⟨(arnd nb k (addNb ins' q (nbAt nb v)).1 (addNb ins' q (nbAt nb v)).2).1, by simp⟩
      obtain ⟨fn, tmps, assign, body, hy, hRnd⟩ := hY pre v wr HJ.out hpre
      have hl5 : (0 : Int) < ((v :: q).length : Int) := by rw [List.length_cons]; omega
      have hl5' : (1 : Int) ≤ ((v :: q).length : Int) := by omega
      generalize hL5 : (v :: q).length = L5 at hl5 hl5'
      have HL5 := Aside0.mk hL5
      rw [hL5] at HQ HS
      have Hh5 := Aside0.mk hh5
      clear hL5 hh5
      gi_wp2
      refine hRnd.mono ?_
      rintro e W3 (⟨rfl, hJ3, hk3⟩ | ⟨rfl, hJx3⟩)
      · have HM3 := Aside0.mk (HM.out.round hk3)
        have hrow3 := HM.out.row_kept hk3
        have HR3 : Aside0 (Kd.R Kd.bool 4 W3 base (fun _ => True) (.slice (some ⟨r, 0, none⟩) ins.length capr) ins') := ⟨Kd.R_mono (Kd.R_step (Kd.R_tight rfl HR.out) (fun k hk _ => by
          have hkr : k = r := by simpa [Value.ownBlock] using hk
          rw [hkr]; exact hrow3)) (fun _ _ => trivial)⟩
        have hg5o : ¬ OutRow o wr g5 := HS.out g5 rfl
        have hg5k : W3.heap[g5]? = wr.heap[g5]? := hk3.same g5 _ _ _ Hh5.out (fun e => by have := HM.out.out.1; omega) hg5o
        have HQ3 : Aside0 (Kd.Q (Kd.int .i64) 3 W3 W1.heap.size (fun _ => True) (.slice (some ⟨g5, o5, none⟩) L5 c5) (v :: q)) := ⟨Kd.Q_mono (Kd.Q_step (Kd.Q_tight rfl HQ.out) (fun k hk _ => by
          have hkr : k = g5 := by simpa [Value.ownBlock] using hk
          rw [hkr]; exact hg5k)) (fun _ _ => trivial)⟩
        have HS3 : Aside0 (¬ OutRow o W3 g5) := ⟨fun h => (hk3.row g5 h).elim hg5o (fun h2 => by omega)⟩
        have HJ3 := Aside0.mk hJ3
        have hc5 : W3.cell? ⟨g5, o5, none⟩ = some (.int .i64 v) := (World.cell?_of_block hg5k).trans hcell5
        have hb3 := HM3.out.box3
        obtain ⟨hv0, hv1⟩ := HK.out.2.2 v (by simp)
        have hvn : v.toNat < nb.length := by omega
        obtain ⟨ad, A0, c0, hA, hcr, hl0, hC0⟩ := hb_row (HM3.out.nbs W3 (fun _ _ _ => rfl)) v.toNat hvn
        have hmem : nbAt nb v ∈ nb := by
          unfold nbAt
          rw [List.getD_eq_getElem?_getD, List.getElem?_eq_getElem hvn]
          exact List.getElem_mem hvn
        obtain ⟨husl, husr⟩ := hrows _ hmem
        have Hus : Aside0 (nbAt nb v = nb.getD v.toNat []) := ⟨rfl⟩
        rw [← Hus.out] at hcr hl0 hC0
        generalize hus : nbAt nb v = us at hcr hl0 hC0 husl husr
        have Hus2 := Aside0.mk hus
        have HUR := Aside0.mk husr
        have HC0 := Aside0.mk hC0
        have hv1' : v < (nb.length : Int) := by omega
        clear hus husr hC0 hmem hg5k hg5o hrow3 hJ3 hk3 hcell5 HQ HS HR HM HJ
        subst hA
        gi_wp2
        gi_region
        gi_wp2
        have HRL := HR3
        gi_loopw [5, 31] (fun v5 v31 wr => ∃ (j : Nat) (i2 : List Bool) (q2 : List Int), v31 = .int .i64 j ∧ j ≤ us.length ∧ Aside0 (addNb ins' (v :: q) (us.take j) = (i2, q2)) ∧ Aside0 (J (pre ++ [v]) wr) ∧ Aside0 (AMem o r bi bb capr cb ins.length nb (some ad) Pk W1.heap.size wr) ∧ Aside0 (Kd.R Kd.bool 4 wr base (fun _ => True) (.slice (some ⟨r, 0, none⟩) ins.length capr) i2) ∧
            Aside0 (Kd.Q (Kd.int .i64) 3 wr W1.heap.size (fun _ => True) v5 q2) ∧ Aside0 (∀ k, v5.ownBlock = some k → ¬ OutRow o wr k) ∧ Aside0 (wr.heap[ad.block]? = W3.heap[ad.block]?))
          (fun v5 v31 wr => us.length - (intOf v31).toNat)
        case atStart =>
          refine ⟨0, ins', v :: q, rfl, Nat.zero_le _, ⟨rfl⟩, ⟨hJ _ _ _ none HJ3.out (grownBy_drew W3 none) (fun _ e => by cases e)⟩, ⟨HM3.out.step (grownBy_drew W3 none) (fun _ e => by cases e) ?_⟩, ⟨Kd.R_drew HR3.out⟩, ⟨Kd.Q_drew HQ3.out⟩, ⟨fun k e => ?_⟩, ⟨rfl⟩⟩
          · obtain ⟨cells, h⟩ := Kd.R_typed HR3.out r rfl
            exact ⟨_, _, _, h⟩
          · cases e
            exact HS3.out
        case round =>
          obtain ⟨j, i2, q2, e31, hj, HP, HJ, HM, HR, HQ, HS, HW⟩ := hrel
          subst e31
          have HV0 := Aside0.mk hv0
          clear HC0 HM3 HR3 HQ3 HS3 HJ3 hc5 hbb1 hbb hnb hbc hbc1 hbi hbi1 hv0
          have hi2 : i2.length = ins.length := by
            have h1 := addNb_length (us.take j) ins' (v :: q)
            rw [HP.out] at h1
            rw [h1]
            exact (Kd.R_reads' HRL.out).1.symm
          by_cases hjl : j < us.length
          · obtain ⟨ad2, A2, c2, e2, hcr2, -, hC2⟩ := hb_row (HM.out.nbs wr (fun _ _ _ => rfl)) v.toNat hvn
            cases e2
            have hadd : (ad.add v.toNat).block = ad.block := by unfold Addr.add; split <;> rfl
            have heq : wr.cell? (ad.add v.toNat) = W3.cell? (ad.add v.toNat) := World.cell?_of_block (by rw [hadd]; exact HW.out)
            rw [heq, hcr, Hus.out.symm.trans Hus2.out] at hcr2
            rw [Hus.out.symm.trans Hus2.out] at hC2
            have e3 : A0 = A2 := by simpa using (Value.slice.inj (Option.some.inj hcr2)).1
            subst e3
            obtain ⟨b0, off0, e4, hcu⟩ := hb_cell hC2 j hjl
            subst e4
            have humem : us.getD j 0 ∈ us := by
              rw [List.getD_eq_getElem?_getD, List.getElem?_eq_getElem hjl]
              exact List.getElem_mem hjl
            obtain ⟨hu0, hu1⟩ := HUR.out _ humem
            have HTK : Aside0 (us.take (j + 1) = us.take j ++ [us.getD j 0]) := ⟨by
              rw [List.take_add_one, List.getElem?_eq_getElem hjl, List.getD_eq_getElem?_getD, List.getElem?_eq_getElem hjl]
              rfl⟩
            generalize us.getD j 0 = u at hcu humem hu0 hu1 HTK
            clear hcr2 hC2 heq hadd humem
            have hcr' := Aside0.mk hcr
            clear hcr
            obtain ⟨hcellu, hfru⟩ := Kd.R_celln false HR.out u hu0 (by simpa [List.length_set] using hu1)
            have hb1 := HM.out.box1
            have hjs : (j : Int) < (us.length : Int) := by omega
            have hj0 : (0 : Int) ≤ (j : Int) := by omega
            cases hbu : rdOf false i2 u with
            | true =>
              rw [hbu] at hcellu
              gi_wp2
              refine ⟨⟨j + 1, i2, q2, by simp, hjl, ⟨?_⟩, HJ, HM, HR, HQ, HS, HW⟩, by simp [intOf]; omega⟩
              rw [HTK.out, addNb_append, HP.out]
              simp only [addNb]
              rw [if_pos (by simpa [isIn, rdOf] using hbu)]
            | false =>
              rw [hbu] at hcellu
              have HRW := Aside0.mk (Kd.R_putg HR.out u true)
              have hq2 : (q2.length + 1) * 8 ≤ 140737488355328 := by
                have h1 := addNb_outs (us.take j) ins' (v :: q) (fun x hx => by rw [(Kd.R_reads' HRL.out).1.symm]; exact HUR.out x (List.mem_of_mem_take hx))
                rw [HP.out] at h1
                have := HK.out.1
                have := HK.out.2.1
                simp only at h1
                omega
              obtain ⟨v1, w1, hrun, hQ3, -, hg1, hat⟩ := Kd.Q_run (P := Try.prog) (Kd.int .i64) (w0 := wr.setCell ⟨r, u.toNat, none⟩ (.bool true)) (W := wr.setCell ⟨r, u.toNat, none⟩ (.bool true)) W1.heap.size 28 28 3 (.int .i64 0) 8 Try.underlying28 info3 rfl (by decide) (by decide) u5 q2 u [.int .i64 u]
                (fun _ => True) (fun _ => False) rfl (fun _ hk => hk.elim) (fun _ _ => trivial) (Kd.Q_over' HQ.out (v := .slice (some ⟨r, 0, none⟩) ins.length capr) (Kd.R_typed HR.out) (by decide) HRW.out.2) (Below.refl _ _) (by have := HM.out.size; simpa using this) hq2
              have hszw : (wr.setCell ⟨r, u.toNat, none⟩ (.bool true)).heap.size = wr.heap.size := by simp
              rw [hszw] at hrun
              have HRUN := Aside0.mk hrun
              clear hrun
              gi_wp2_with (refine wpListIn_at_append rfl ?_)
              refine ⟨?_⟩
              refine wpListIn_append_run (by rfl) (.tmp 43) (.tmp 45) 28 (by rfl) u5 (.slice (some ⟨wr.heap.size, 0, none⟩) 1 1) (by rfl) (by rfl) HRUN.out ?_
              gi_wp2
              have hr1 : ∃ cs e fr, (wr.setCell ⟨r, u.toNat, none⟩ (.bool true)).heap[r]? = some (.cells cs e fr) := by
                obtain ⟨cells, h⟩ := Kd.R_typed HRW.out.1 r rfl
                exact ⟨_, _, _, h⟩
              have HM1 := HM.out.step HRW.out.2 (fun k e => .inl (Option.some.inj e).symm) hr1
              have hrs := HM.out.sep r (.inl rfl)
              have hR3 : Kd.R Kd.bool 4 w1 base (fun _ => True) (.slice (some ⟨r, 0, none⟩) ins.length capr) (i2.set u.toNat true) := Kd.R_over' HRW.out.1 (v := u5) (fun k hk => Kd.Q_typed (Kd.Q_over' HQ.out (v := .slice (some ⟨r, 0, none⟩) ins.length capr) (Kd.R_typed HR.out) (by decide) HRW.out.2) k hk) (by decide) hg1
              have hr2 : ∃ cs e fr, w1.heap[r]? = some (.cells cs e fr) := by
                obtain ⟨cells, h⟩ := Kd.R_typed hR3 r rfl
                exact ⟨_, _, _, h⟩
              have hqb : ∀ k, u5.ownBlock = some k → W1.heap.size ≤ k := Kd.Q_base HQ.out
              have HM2 := HM1.step hg1 (fun k e => .inr (hqb k e)) hr2
              have hout := HM.out.out
              have hsw : W1.heap.size ≤ wr.heap.size := HM.out.size
              have hbx1 : (wr.setCell ⟨r, u.toNat, none⟩ (.bool true)).heap[o]? = wr.heap[o]? := HRW.out.2.block o (by omega) (fun e => hrs.2.1 (Option.some.inj e).symm)
              have hbx2 : w1.heap[o]? = wr.heap[o]? := (hg1.block o (by rw [hszw]; omega) (fun e => by have := hqb o e.symm; omega)).trans hbx1
              have hJ1 : J (pre ++ [v]) (wr.setCell ⟨r, u.toNat, none⟩ (.bool true)) := hJ _ _ _ (some r) HJ.out HRW.out.2 (fun k e => by
                cases e
                exact ⟨.inl rfl, hrs.2.1, .inl hrs.2.2⟩)
              have hJ2 : J (pre ++ [v]) w1 := hJ _ _ _ u5.ownBlock hJ1 hg1 (fun k e => ⟨.inr (hqb k e), by have := hqb k e; omega, .inl (fun h => HS.out k e ((OutRow.of_box hbx1).1 h))⟩)
              have hadp := HM.out.sep ad.block (.inr (.inr (.inr (HM.out.list ad rfl))))
              have hadr := HM.out.far ad.block (.inr (.inr (HM.out.list ad rfl)))
              refine ⟨⟨j + 1, i2.set u.toNat true, q2 ++ [u], by simp, hjl, ⟨?_⟩, ⟨hJ2⟩, ⟨HM2⟩, ⟨hR3⟩, ⟨hQ3⟩, ⟨?_⟩, ⟨?_⟩⟩, by simp [intOf]; omega⟩
              · rw [HTK.out, addNb_append, HP.out]
                simp only [addNb]
                rw [if_neg (by simpa [isIn, rdOf] using hbu)]
              · intro k e hk
                have hk' := (OutRow.of_box hbx2).1 hk
                rcases hat with h | ⟨b, h, hle⟩
                · exact HS.out k (h.symm.trans e) hk'
                · rw [h] at e
                  cases e
                  have := hout.2 _ hk'
                  rw [hszw] at hle
                  omega
              · exact ((hg1.block _ (by rw [hszw]; have := hadp.1; omega) (fun e => by have := hqb _ e.symm; have := hadp.1; omega)).trans (HRW.out.2.block _ (by have := hadp.1; omega) (fun e => hadr (Option.some.inj e)))).trans HW.out
          · have hjeq : j = us.length := by omega
            have hPE : addNb ins' (v :: q) us = (i2, q2) := by
              have := HP.out
              rwa [hjeq, List.take_length] at this
            obtain ⟨q3, hq3⟩ : ∃ q3, q2 = v :: q3 := ⟨(addNb ins' q us).2, by
              have := hPE
              rw [addNb_cons] at this
              exact (Prod.mk.inj this).2.symm⟩
            subst hq3
            have hPE' : addNb ins' q us = (i2, q3) := by
              have h1 := hPE
              rw [addNb_cons, Prod.mk.injEq, List.cons.injEq] at h1
              exact Prod.ext h1.1 h1.2.2
            have HPE := Aside0.mk hPE'
            clear hPE hPE'
            obtain ⟨g6, o6, c6, e6, hb6, hg6, cells6, hh6⟩ := Kd.Q_form HQ.out (by simp)
            subst e6
            have HH6 := Aside0.mk hh6
            clear hh6
            have hjn : ¬ ((j : Int) < (us.length : Int)) := by omega
            have hl6 : (1 : Int) ≤ ((v :: q3).length : Int) := by rw [List.length_cons]; omega
            generalize hL6 : (v :: q3).length = L6 at hl6
            have HL6 := Aside0.mk hL6
            rw [hL6] at HQ HS
            have hc6 : L6 ≤ c6 := (Kd.Q_reads' HQ.out).2.1
            clear hL6
            gi_wp2
            have hown : (Value.slice (if c6 = 1 then some ⟨g6, o6, none⟩ else some ⟨g6, o6 + 1, none⟩) (L6 - 1) (c6 - 1)).ownBlock = some g6 := by split <;> rfl
            have hQ6 : Kd.Q (Kd.int .i64) 3 wr W1.heap.size (fun _ => True) (.slice (if c6 = 1 then some ⟨g6, o6, none⟩ else some ⟨g6, o6 + 1, none⟩) (L6 - 1) (c6 - 1)) q3 := by
              have := Kd.Q_drop (k := 1) HQ.out (by simp)
              have hz : (Kd.int .i64).sz = 1 := rfl
              simpa [Addr.add, hz] using this
            have hfo := addNb_outs us ins' q (fun x hx => by rw [(Kd.R_reads' HRL.out).1.symm]; exact HUR.out x hx)
            rw [HPE.out] at hfo
            simp only at hfo
            have hk1 := HK.out.1
            rw [List.length_cons] at hk1
            refine ⟨⟨pre ++ [v], q3, i2, k, HJ, HM, HR, ⟨hQ6⟩, ⟨fun k e => ?_⟩, ⟨?_, ?_⟩, ⟨by omega, by have := HK.out.2.1; omega, ?_⟩⟩, ?_⟩
            · rw [hown] at e
              exact HS.out k e
            · have := HF.out.1
              simp only [arnd, Hus2.out, HPE.out] at this
              rw [this]
              simp
            · have := HF.out.2
              simpa only [arnd, Hus2.out, HPE.out] using this
            · have h1 := addNb_range us ins.length ins' q HUR.out (fun x hx => HK.out.2.2 x (by simp [hx]))
              rw [HPE.out] at h1
              exact h1
            · have h1 := HL5.out
              have h2 := HL6.out
              rw [List.length_cons] at h1 h2
              simp only [lenOf]
              rw [HOU.out, outsAt_of HR.out]
              omega
      · gi_wp2
        refine bodyPost_ret (results_none rfl _ _ _) rfl ?_
        exact ⟨⟨_, rfl⟩, .inr ⟨pre ++ [v], hpre, hJx3⟩⟩
end Go.Proofs.Ytihaddejjgaepaa.G

/- A loop over a function whose values have something of their own in memory: the loop's law, and what is asked of the iterator. -/
import Derived.RangeFuncNested
import Derived.RangeFuncBound
import Derived.RangeFuncCalls
import Derived.RangeFuncLeaves
import Derived.WalkKit
namespace Go.Proofs.YtjkadheknjkkbaaR
open Go Go.RowKit
set_option linter.unusedVariables false
set_option linter.unusedSimpArgs false

/-- What an iterator owes its loop: each value x that it hands out stands in memory as Ok says, at the moment when it is handed out. -/
def SeqOk {α σ : Type} (F : Fence) (n : Nat) (P : Program) (g : Nat) (lb : Array Value) (encs : α → Array Value) (Ok : σ → α → World → Prop) (Kp : α → World → World → Prop) (s0 : σ) (nx : σ → α → Nat → σ) (S : σ → Prop) (w : World) : Prop :=
  ∀ (l : Nat) (J Jx : σ → World → Prop) (W : World), Below w.heap.size w W → AbidesFrom W.heap.size J → AbidesFrom W.heap.size Jx →
    (∀ s x W1, J s W1 → Ok s x W1 → YieldAt F (n - 1) P l (encs x) W1 fun e W' =>
      (e = .returned (.bool true) ∧ J (nx s x W'.heap.size) W' ∧ Kp x W1 W') ∨ (e = .returned (.bool false) ∧ Jx (nx s x W'.heap.size) W')) →
    J s0 W →
    CallsIn F n P g (#[.func (.yield l) #[] #[]] ++ lb) W fun e W' => (∃ v, e = .returned v) ∧ ((∃ s, S s ∧ J s W') ∨ (∃ s, Jx s W'))

/-- How a round's body may be left: it goes on, or it leaves by a jump. -/
def roundOut {α σ : Type} (Kp : α → World → World → Prop) (I : σ → World → Prop) (Ix : Code → σ → World → Prop) (s : Nat → σ) (x : α) (W0 W : World) : Exit → Act → World → Prop
  | .normal, _, W' => KeepsOthers W W' ∧ Kp x W0 W' ∧ I (s W'.heap.size) W'
  | .ret, _, W' => KeepsOthers W W' ∧ Ix .ret (s W'.heap.size) W'
  | .exit id, _, W' => KeepsOthers W W' ∧ Ix (.exit id) (s W'.heap.size) W'
  | .goto t, _, W' => KeepsOthers W W' ∧ Ix (.goto t) (s W'.heap.size) W'
  | .panic _, _, _ => False
  | .outgrown, _, _ => False

/-- All cells lie as they lay. -/
structure Still (W W' : World) : Prop where
  size : W.heap.size ≤ W'.heap.size
  cells : ∀ (k : Nat) (o : Obj), W.heap[k]? = some o → o.isCells = true → W'.heap[k]? = some o
theorem Still.of_below {W W' : World} (h : Below W.heap.size W W') : Still W W' := ⟨h.size, fun k o hk _ => (h.block k (Array.getElem?_eq_some_iff.1 hk).1).trans hk⟩
theorem Still.put {W W' : World} (h : Still W W') {l : Nat} {o : Obj} (o' : Obj) (hl : W'.heap[l]? = some o) (ho : o.isCells = false) : Still W (W'.putObj l o') :=
  ⟨by simpa using h.size, fun k q hk hq => by
    have h1 := h.cells k q hk hq
    refine (World.putObj_heap_other (fun e => ?_)).trans h1
    rw [e, hl] at h1
    cases h1
    rw [ho] at hq
    cases hq⟩
theorem rangeFunc_ok {F : Fence} {n : Nat} {P : Program} {α σ : Type} {g : Operand} {ps : Array Tmp} {assign body : Code} {Q : Exit → Act → World → Prop} {a : Act} {w : World}
    (hro : F.round = none) (h1 : 1 ≤ n) {gf : Nat} {lb : Array Value} (hg : a.eval g = .func (.func gf) #[] lb) (hFg : F.fn gf) (eg : ∀ args w, (callFunc gf args).run P w = .ok (.enter gf args) w)
    {encs : α → Array Value} {Ok : σ → α → World → Prop} {Kp : α → World → World → Prop} {s0 : σ} {nx : σ → α → Nat → σ} {S : σ → Prop} {w0 : World} (hseq : SeqOk F (n - 1) P gf lb encs Ok Kp s0 nx S w0)
    (hKl : ∀ (x : α) (A B : World) (l : Nat) (o o' : Obj), w.heap.size ≤ l → B.heap[l]? = some o → o.isCells = false → o.isWalk = false → Kp x A B → Kp x A (B.putObj l o')) (hb0 : Below w0.heap.size w0 w) (hps : ∀ x, (encs x).size = ps.size)
    (I : σ → World → Prop) (Ix : Code → σ → World → Prop) (hI : OwnFrom w.heap.size I) (hIx : ∀ c, OwnFrom w.heap.size (Ix c)) (h0 : I s0 w) (Ax : α → Act → World → Prop) (hAx : ∀ x a', OwnFrom w.heap.size (fun (_ : Unit) W => Ax x a' W))
    (hassign : ∀ (l : Nat) (s : σ) (x : α) (W : World) (K : Act → World → Prop), w.heap.size ≤ W.heap.size → I s W → Ok s x W → (∀ a' W', Below W.heap.size W W' → I s W' → Ax x a' W' → K a' W') →
      assign.wpIn (F.inRound l) (n - 1 - 1) P (Exit.then K (fun _ _ _ => False)) { tmps := (ps.zip (encs x)).foldl (fun t (p, v) => t.setIfInBounds p v) a.tmps, defers := [] } W)
    (hbody : ∀ (l : Nat) (s : σ) (x : α) (a' : Act) (W0 W : World), w.heap.size ≤ W.heap.size → Still W0 W → Below w.heap.size W0 W → I s W → Ok s x W0 → Ax x a' W → body.wpIn (F.inRound l) (n - 1 - 1) P (roundOut Kp I Ix (nx s x) x W0 W) a' W)
    (hdone : ∀ (D : Nat) (s : σ) (W : World), w.heap.size ≤ D → S s → I s W → W.heap[D]? = some (.deferred (some [])) → Q .normal { a with defers := { target := .collected D, args := #[] } :: a.defers } W)
    (hstop : ∀ (D : Nat) (c : Code) (s : σ) (W : World), w.heap.size ≤ D → Ix c s W → W.heap[D]? = some (.deferred (some [])) → c.wpIn F n P Q { a with defers := { target := .collected D, args := #[] } :: a.defers } W) :
    (Code.rangeFunc g ps assign body).wpIn F n P Q a w := by
  refine wpIn_rangeFunc fun fn hfn => ?_
  rw [hro]
  -- the two blocks that the loop lays for itself: D for deferred calls, L its record
  obtain ⟨D, hD⟩ : ∃ D, D = w.heap.size := ⟨_, rfl⟩
  obtain ⟨L, hL⟩ : ∃ L, L = w.heap.size + 1 := ⟨_, rfl⟩
  obtain ⟨rc, hrc⟩ : ∃ rc : LoopState → Option Code → Obj, rc = fun st pe => .loop { state := st, pending := pe, fn, tmps := a.tmps, params := ps, assign, body, defers := D } := ⟨_, rfl⟩
  have hnew : ∀ (W : World) (o : Obj), (W.alloc o).heap[W.heap.size]? = some o := World.alloc_heap_new
  obtain ⟨W1, hW1⟩ : ∃ W1, W1 = (w.alloc (.deferred (some []))).alloc (rc .ready none) := ⟨_, rfl⟩
  have hl1 : W1.heap[L]? = some (rc .ready none) := by
    rw [hW1, hL]; have := hnew (w.alloc (.deferred (some []))) (rc .ready none); rwa [World.size_alloc] at this
  have hd1 : W1.heap[D]? = some (.deferred (some [])) := by
    rw [hW1, hD]; exact (Below.heap_alloc _ _ _ (by simp)).trans (hnew w _)
  have hb1 : Below w0.heap.size w0 W1 := by
    rw [hW1]; exact hb0.trans ((((Below.refl _ w).alloc (Nat.le_refl _) _).alloc (by simp) _).mono hb0.size)
  have hs1 : w.heap.size ≤ W1.heap.size := by rw [hW1]; simp; omega
  have hI1 : I s0 W1 := by rw [hW1]; exact hI.alloc _ (hI.alloc _ h0)
  have hrun : (Instr.enterLoop fn a.tmps ps assign body none).run P w = .ok (L, [{ target := .collected D, args := #[] }]) W1 := by
    rw [hW1, hrc, hL, hD]; exact run_enterLoop_outer _ _ _ _ _
  refine ⟨L, [{ target := .collected D, args := #[] }], W1, { target := .fn (.func gf) lb, args := #[.func (.yield L) #[] #[]] }, W1, gf, #[.func (.yield L) #[] #[]] ++ lb, W1, hrun, ?_, ?_, ?_, fun _ => h1, ?_⟩
  · simp only [resolve, hg]; simp [go_sem]
  · intro f' hf'; simp [Target.leads] at hf'; subst hf'; exact hFg
  · simp [invoke, go_sem, eg]
  -- what stands between two rounds, and behind one that left
  have kept : ∀ {st : LoopState} {pe : Option Code} {A B : World} {row : Option Nat}, A.heap[L]? = some (rc st pe) ∧ A.heap[D]? = some (.deferred (some [])) → A.grownBy B row →
      (∀ r, row = some r → W1.heap.size ≤ r ∧ ∃ o : Obj, A.heap[r]? = some o ∧ o.isWalk = true) → B.heap[L]? = some (rc st pe) ∧ B.heap[D]? = some (.deferred (some [])) := fun h hg' hr =>
    ⟨(grownBy_keeps hg' (fun r e => (hr r e).2) h.1 (by rw [hrc]; rfl)).trans h.1, (grownBy_keeps hg' (fun r e => (hr r e).2) h.2 rfl).trans h.2⟩
  have walks : ∀ {A : World} {row : Option Nat}, (∀ r, row = some r → W1.heap.size ≤ r ∧ ∃ o : Obj, A.heap[r]? = some o ∧ o.isWalk = true) → (∀ r, row = some r → w.heap.size ≤ r ∧ ∃ o : Obj, A.heap[r]? = some o ∧ o.isCells = false) := fun hr r e => by
    obtain ⟨hB, o, ho, hw⟩ := hr r e
    exact ⟨by omega, o, ho, Obj.not_cells_of_walk hw⟩
  refine (hseq L (fun s W => I s W ∧ W.heap[L]? = some (rc .ready none) ∧ W.heap[D]? = some (.deferred (some [])))
    (fun s W => ∃ c, Ix c s W ∧ W.heap[L]? = some (rc .done (some c)) ∧ W.heap[D]? = some (.deferred (some []))) W1 hb1
    (fun s A B row hs hg' hr => ⟨hI s A B row hs.1 hg' (walks hr), kept hs.2 hg' hr⟩)
    (fun s A B row hs hg' hr => hs.imp fun c hc => ⟨hIx c s A B row hc.1 hg' (walks hr), kept hc.2 hg' hr⟩) ?round ⟨hI1, hl1, hd1⟩).mono ?behind
  case round =>
    rintro s x W ⟨hi, hl, hd⟩ hok
    have hlt : L < W.heap.size := (Array.getElem?_eq_some_iff.1 hl).1
    rw [hrc] at hl
    refine ⟨fn, _, assign, body, run_yield (P := P) (args := encs x) hl (hps x), roundIn_of_wpIn hfn (hassign _ s x W _ (by omega) hi hok ?_)⟩
    intro a' Wa hba hia hax
    have hla : Wa.heap[L]? = some (rc .ready none) := by rw [hrc]; exact (hba.block _ hlt).trans hl
    have hda : Wa.heap[D]? = some (.deferred (some [])) := (hba.block _ (by omega)).trans hd
    have hlta : L < Wa.heap.size := Nat.lt_of_lt_of_le hlt hba.size
    rw [hrc] at hla
    refine ⟨_, run_beginRound hla rfl, ?_⟩
    obtain ⟨W2, hW2⟩ : ∃ W2, W2 = Wa.putObj L (rc .busy none) := ⟨_, rfl⟩
    have hl2 : W2.heap[L]? = some (rc .busy none) := by rw [hW2]; exact World.putObj_heap_same hlta
    have hd2 : W2.heap[D]? = some (.deferred (some [])) := by rw [hW2]; exact (World.putObj_heap_other (by omega)).trans hda
    have hi2 : I s W2 := by rw [hW2]; exact hI.putObj _ hia (by omega) hla rfl
    have hax2 : Ax x a' W2 := by rw [hW2]; exact (hAx x a').putObj (s := ()) _ hax (by omega) hla rfl
    have hst : Still W W2 := by rw [hW2]; exact (Still.of_below hba).put _ hla rfl
    have hbw : Below w.heap.size W W2 := by
      rw [hW2]
      exact (hba.mono (by omega)).grown (grownBy_putObj' Wa L _) (by omega) (fun k e => by cases e; omega)
    have hgo := hbody L s x a' W W2 (by rw [hW2]; simp; omega) hst hbw hi2 hok hax2
    rw [hW2, hrc] at hgo
    refine wpIn_mono hgo ?_
    rw [hrc] at hl2 hW2
    clear hgo
    have fin : ∀ (jump : Option Code) (W3 : World), KeepsOthers W2 W3 → ∃ o, W3.heap[L]? = some o ∧ o.isCells = false ∧ o.isWalk = false ∧
        (Instr.endRound L jump).run P W3 = .ok (.bool jump.isNone) (W3.putObj L (rc (if jump.isNone then .ready else .done) jump)) ∧
        (W3.putObj L (rc (if jump.isNone then .ready else .done) jump)).heap[L]? = some (rc (if jump.isNone then .ready else .done) jump) ∧
        (W3.putObj L (rc (if jump.isNone then .ready else .done) jump)).heap[D]? = some (.deferred (some [])) := fun jump W3 hk => by
      have hl3 := hk.same _ _ hl2 rfl
      have hr := run_endRound (P := P) jump hl3
      exact ⟨_, hl3, rfl, rfl, by rw [hr, hrc], World.putObj_heap_same (Array.getElem?_eq_some_iff.1 hl3).1, (World.putObj_heap_other (by omega)).trans (hk.same _ _ hd2 rfl)⟩
    have out : ∀ (c : Code) (W3 : World), KeepsOthers W2 W3 → Ix c (nx s x W3.heap.size) W3 → ∃ v W', (Instr.endRound L (some c)).run P W3 = .ok v W' ∧ ((Ending.returned v = .returned (.bool true) ∧ (I (nx s x W'.heap.size) W' ∧ W'.heap[L]? = some (rc .ready none) ∧ W'.heap[D]? = some (.deferred (some []))) ∧ Kp x W W') ∨
        (Ending.returned v = .returned (.bool false) ∧ ∃ c', Ix c' (nx s x W'.heap.size) W' ∧ W'.heap[L]? = some (rc .done (some c')) ∧ W'.heap[D]? = some (.deferred (some [])))) := fun c W3 hk hx => by
      obtain ⟨o, ho, hc, hw, hr, hl4, hd4⟩ := fin (some c) W3 hk
      exact ⟨_, _, hr, .inr ⟨rfl, c, by rw [World.putObj_size]; exact (hIx c).putObj _ hx (by omega) ho hc, hl4, hd4⟩⟩
    rw [← hW2]
    rintro e a3 W3 hp
    cases e with
    | normal =>
      obtain ⟨hk, hkp, hi3⟩ := hp
      obtain ⟨o, ho, hc, hw, hr, hl4, hd4⟩ := fin none W3 hk
      exact ⟨_, _, hr, .inl ⟨rfl, ⟨by rw [World.putObj_size]; exact hI.putObj _ hi3 (by omega) ho hc, hl4, hd4⟩, hKl _ _ _ _ _ _ (by omega) ho hc hw hkp⟩⟩
    | ret => exact out _ W3 hp.1 hp.2
    | exit id => exact out _ W3 hp.1 hp.2
    | goto t => exact out _ W3 hp.1 hp.2
    | panic ch => exact hp.elim
    | outgrown => exact hp.elim
  case behind =>
    rintro e W2 ⟨⟨v, rfl⟩, (⟨s, hS, hi, hl, hd⟩ | ⟨s, c, hi, hl, hd⟩)⟩
    · rw [hrc] at hl
      exact ⟨none, _, run_endLoop (P := P) hl (by simp), hdone D s _ (by omega) hS (hI.putObj _ hi (by omega) hl rfl) ((World.putObj_heap_other (by omega)).trans hd)⟩
    · rw [hrc] at hl
      exact ⟨some c, _, run_endLoop (P := P) hl (by simp), hstop D c s _ (by omega) ((hIx c).putObj _ hi (by omega) hl rfl) ((World.putObj_heap_other (by omega)).trans hd)⟩
end Go.Proofs.YtjkadheknjkkbaaR

/-
  What an argument's reading gives: a value that reads as data of its type has the cells of that kind (whole numbers, bools, strings, slices, structs, arrays, nested as they may be).
  Conditions: none of its own; plain lemmas over any program.
-/
import Derived.Test.YtjkadheknjkkbaaWWords
import Derived.Test.YtjkadheknjkkbaaWLast
import Derived.ProofKit
import Derived.OpenShut
import Derived.SizedLaws
namespace Go.Proofs.Ytjkadheknjkkbaa.Opn
open Go Go.RowKit Go.Proofs.YtjkadheknjkkbaaW.PrintWords
section
variable {H : Type} {enc : TypeId × Value → H} {P : Program} {w : World} {base : Nat} {spare : Nat → Bool} {held : Bool} {α β : Type}
/-- Whatever reads as data of type t has the cells of kind d, and its numbers fit. -/
def Opens (enc : TypeId × Value → H) (P : Program) (w : World) (base : Nat) (spare : Nat → Bool) (held : Bool) (t : TypeId) (d : Kd α) (F : α → Prop) : Prop :=
  ∀ fuel cs x, DataW.trod enc P w base spare held fuel t cs = some x → ∃ y, d.K w y cs ∧ F y
theorem opens_int {t : TypeId} {k : IntKind} (ht : P.underlying t = some (.int k)) : Opens enc P w base spare held t (Kd.int k) (fun x => (Lit.int k x).wf = true) := by
  intro fuel cs x h
  obtain ⟨m, rfl, _, hw⟩ := DataW.trod_int ht h
  exact ⟨m, rfl, hw⟩
theorem opens_bool {t : TypeId} (ht : P.underlying t = some .bool) : Opens enc P w base spare held t Kd.bool (fun _ => True) := by
  intro fuel cs x h
  obtain ⟨m, rfl, _⟩ := DataW.trod_bool ht h
  exact ⟨m, rfl, trivial⟩
theorem opens_string {t : TypeId} (ht : P.underlying t = some .string) : Opens enc P w base spare held t Kd.string (fun s => s.size ≤ maxLen) := by
  intro fuel cs x h
  obtain ⟨m, rfl, _, hw⟩ := DataW.trod_string ht h
  exact ⟨m, rfl, hw⟩
theorem add_add (a : Addr) (i j : Nat) : (a.add i).add j = a.add (i + j) := by
  unfold Addr.add
  by_cases hi : i = 0 <;> by_cases hj : j = 0 <;> simp [hi, hj, Nat.add_assoc]
theorem gather {P : Nat → α → Prop} : ∀ (n : Nat), (∀ i, i < n → ∃ y, P i y) → ∃ xs : List α, xs.length = n ∧ ∀ i y, xs[i]? = some y → P i y := by
  intro n
  induction n with
  | zero => exact fun _ => ⟨[], rfl, fun i y h => by simp at h⟩
  | succ n ih =>
    intro h
    obtain ⟨xs, hl, hx⟩ := ih (fun i hi => h i (by omega))
    obtain ⟨y, hy⟩ := h n (by omega)
    refine ⟨xs ++ [y], by simp [hl], fun i z hz => ?_⟩
    rcases Nat.lt_or_ge i xs.length with hi | hi
    · rw [List.getElem?_append_left hi] at hz; exact hx i z hz
    · rw [List.getElem?_append_right hi] at hz
      have h0 : i - xs.length = 0 := by
        rcases Nat.eq_zero_or_pos (i - xs.length) with h0 | h0
        · exact h0
        · rw [List.getElem?_eq_none (by simp; omega)] at hz; cases hz
      rw [h0] at hz
      simp at hz
      subst hz
      have : i = n := by omega
      subst this
      exact hy
theorem opens_slice {t e : TypeId} {d : Kd α} {F : α → Prop} (ht : P.underlying t = some (.slice e)) (hc : P.cellsOf e = d.sz) (he : Opens enc P w base spare held e d F) :
    Opens enc P w base spare held t (Kd.slice e d) (fun xs => xs.length ≤ maxLen ∧ ∀ x ∈ xs, F x) := by
  intro fuel cs x h
  rcases DataW.trod_slice ht h with ⟨rfl, _⟩ | ⟨a, len, cap, elems, rest, n, _, rfl, _, hb, hl, hm, hlen, hel, _, _⟩
  · exact ⟨[], ⟨none, 0, rfl, Nat.le_refl _, ⟨rfl, by simp, fun h => absurd h (Nat.lt_irrefl 0)⟩⟩, by simp, fun x hx => by simp at hx⟩
  · have each : ∀ i, i < len → ∃ y, (∃ c, c.length = d.sz ∧ d.K w y c ∧ ∀ j u, c[j]? = some u → w.cell? (a.add (i * d.sz + j)) = some u) ∧ F y := by
      intro i hi
      have h1 := hel i hi
      rw [List.getElem?_eq_getElem (by omega), Option.bind_eq_some_iff] at h1
      obtain ⟨c, hcs, hy⟩ := h1
      obtain ⟨y, hK, hF⟩ := he _ _ _ hy
      obtain ⟨_, h2, h3⟩ := World.cells?_some hcs
      refine ⟨y, ⟨c, d.K_len hK, hK, fun j u hu => ?_⟩, hF⟩
      have hj : j < c.length := by
        rcases Nat.lt_or_ge j c.length with hlt | hge
        · exact hlt
        · rw [List.getElem?_eq_none hge] at hu; cases hu
      have h4 := h3 j (by omega)
      rw [add_add, hc, hu] at h4
      exact h4
    obtain ⟨xs, hxl, hx⟩ := gather len each
    refine ⟨xs, ⟨some a, cap, by rw [hxl], by omega, ?_⟩, by omega, fun x hx2 => ?_⟩
    · refine ⟨rfl, by simp only [maxLen] at hm; omega, fun _ => ⟨a, rfl, fun j p hp => (hx j p hp).1⟩⟩
    · obtain ⟨i, hi⟩ := List.mem_iff_getElem?.1 hx2
      exact (hx i x hi).2
/-- Parts in line, from place o on: each part of type ty at place off. -/
def OpensL {γ : Type} (enc : TypeId × Value → H) (P : Program) (w : World) (base : Nat) (spare : Nat → Bool) (held : Bool) (ty : γ → TypeId) (off : γ → Nat) (l : List γ) (o : Nat) (d : Kd α) (F : α → Prop) : Prop :=
  ∀ fuel (cs : List Value), (∀ f ∈ l, ∃ x, DataW.trod enc P w base spare held fuel (ty f) ((cs.drop (off f)).take (P.cellsOf (ty f))) = some x) → ∃ y, d.K w y ((cs.drop o).take d.sz) ∧ F y
theorem opensL_last {γ : Type} {ty : γ → TypeId} {off : γ → Nat} {f : γ} {o : Nat} {d : Kd α} {F : α → Prop} (ho : off f = o) (hc : P.cellsOf (ty f) = d.sz) (he : Opens enc P w base spare held (ty f) d F) :
    OpensL enc P w base spare held ty off [f] o d F := by
  intro fuel cs h
  obtain ⟨x, hx⟩ := h f (by simp)
  rw [ho, hc] at hx
  exact he _ _ _ hx
theorem opensL_cons {γ : Type} {ty : γ → TypeId} {off : γ → Nat} {f : γ} {l : List γ} {o : Nat} {a : Kd α} {b : Kd β} {F : α → Prop} {G : β → Prop} (ho : off f = o) (hc : P.cellsOf (ty f) = a.sz) (he : Opens enc P w base spare held (ty f) a F)
    (hs : OpensL enc P w base spare held ty off l (o + a.sz) b G) : OpensL enc P w base spare held ty off (f :: l) o (Kd.pair a b) (fun p => F p.1 ∧ G p.2) := by
  intro fuel cs h
  obtain ⟨x, hx⟩ := h f (by simp)
  rw [ho, hc] at hx
  obtain ⟨y, hy, hF⟩ := he _ _ _ hx
  obtain ⟨z, hz, hG⟩ := hs fuel cs (fun g hg => h g (List.mem_cons_of_mem _ hg))
  refine ⟨(y, z), ⟨_, _, ?_, hy, hz⟩, hF, hG⟩
  show (cs.drop o).take (a.sz + b.sz) = _
  rw [List.take_add, List.drop_drop]
theorem opens_struct {t : TypeId} {fs : Array Field} {d : Kd α} {F : α → Prop} (ht : P.underlying t = some (.struct fs)) (hc : P.cellsOf t = d.sz) (hl : OpensL enc P w base spare held Field.type Field.offset fs.toList 0 d F) :
    Opens enc P w base spare held t d F := by
  intro fuel cs x h
  obtain ⟨xs, m, rfl, _, hlen, hxl, hx⟩ := DataW.trod_struct ht h
  obtain ⟨y, hy, hF⟩ := hl m cs (fun f hf => by
    obtain ⟨i, hi⟩ := List.mem_iff_getElem?.1 hf
    have hi1 : fs[i]? = some f := by rw [← Array.getElem?_toList]; exact hi
    have hi3 := (Array.getElem?_eq_some_iff.1 hi1).1
    have h1 := hx i f hi1
    rw [List.getElem?_eq_getElem (by omega)] at h1
    exact ⟨_, h1⟩)
  refine ⟨y, ?_, hF⟩
  rw [List.drop_zero, List.take_of_length_le (by omega)] at hy
  exact hy
theorem opens_array {t e : TypeId} {n : Nat} {d : Kd α} {F : α → Prop} (ht : P.underlying t = some (.array n e)) (hc : P.cellsOf t = d.sz) (hl : OpensL enc P w base spare held (fun _ : Nat => e) (fun i => i * P.cellsOf e) (List.range n) 0 d F) :
    Opens enc P w base spare held t d F := by
  intro fuel cs x h
  obtain ⟨xs, m, rfl, _, hlen, hxl, hx⟩ := DataW.trod_array ht h
  obtain ⟨y, hy, hF⟩ := hl m cs (fun i hi => by
    have hi' : i < n := List.mem_range.1 hi
    have h1 := hx i hi'
    rw [List.getElem?_eq_getElem (by omega)] at h1
    exact ⟨_, h1⟩)
  refine ⟨y, ?_, hF⟩
  rw [List.drop_zero, List.take_of_length_le (by omega)] at hy
  exact hy
theorem opens_iso {t : TypeId} {d : Kd α} {F : α → Prop} {f : β → α} (g : α → β) (hg : ∀ x, f (g x) = x) (h : Opens enc P w base spare held t d F) : Opens enc P w base spare held t (Kd.iso d f) (fun y => F (f y)) := by
  intro fuel cs x hx
  obtain ⟨y, hy, hF⟩ := h _ _ _ hx
  exact ⟨g y, by show d.K w (f (g y)) cs; rw [hg]; exact hy, by show F (f (g y)); rw [hg]; exact hF⟩
/-- An argument's slice. -/
theorem open_row {t e : TypeId} {d : Kd α} {F : α → Prop} {v : Value} {x : DataW H} {ps : List MemPlace} (ht : P.underlying t = some (.slice e)) (hc : P.cellsOf e = d.sz) (he : Opens enc P w base spare held e d F) (h : DataW.Trod enc P w base spare held t v x ps) (hv : ∃ a len cap, v = .slice a len cap) :
    ∃ (A : Option Addr) (c : Nat) (xs : List α), v = .slice A xs.length c ∧ xs.length ≤ c ∧ d.C w A xs.length xs ∧ xs.length ≤ maxLen ∧ ∀ x ∈ xs, F x := by
  obtain ⟨a, len, cap, rfl⟩ := hv
  obtain ⟨fuel, h⟩ := h
  obtain ⟨xs, ⟨A, c, hcs, hl, hC⟩, hm, hF⟩ := opens_slice ht hc he _ _ _ h
  simp only [Value.cells, List.cons.injEq, and_true] at hcs
  exact ⟨A, c, xs, hcs, hl, hC, hm, hF⟩
/-- An argument's struct, or array. -/
theorem open_agg {t : TypeId} {d : Kd α} {F : α → Prop} {v : Value} {x : DataW H} {ps : List MemPlace} (he : Opens enc P w base spare held t d F) (h : DataW.Trod enc P w base spare held t v x ps) (hv : ∃ cs, v = .agg cs) :
    ∃ (cs : Array Value) (y : α), v = .agg cs ∧ d.K w y cs.toList ∧ F y := by
  obtain ⟨cs, rfl⟩ := hv
  obtain ⟨fuel, h⟩ := h
  obtain ⟨y, hy, hF⟩ := he _ _ _ h
  exact ⟨cs, y, rfl, by simpa [Value.cells] using hy, hF⟩
end
end Go.Proofs.Ytjkadheknjkkbaa.Opn

/-
  The outlet and the document's answer side by side.
  Conditions: none of its own; lemmas that the claim's row rests on.
-/
import Derived.Test.YtbmnplojpeabmaaOutC
import Derived.WalkKit
namespace Go.Proofs.Ytbmnplojpeabmaa.QO
open Go.RowKit Go.Proofs.YtbmnplojpeabmaaW.PrintWords Go.Proofs.YtbmnplojpeabmaaW.PrintLast Go.Proofs.YtbmnplojpeabmaaW.PrintMore
attribute [local go_sem] max2_int min2_int max_two min_two max_three min_three max_four min_four
set_option linter.unusedVariables false
set_option linter.unusedSimpArgs false
open Go.Proofs.Ytbmnplojpeabmaa.Ob Go.Proofs.Ytbmnplojpeabmaa.FramePure
theorem rd67_mem {fl : List S67} {P : S67 → Prop} (h : ∀ n : Int, 0 ≤ n → n < fl.length → P (rd_T67 fl n)) : ∀ x ∈ fl, P x := by
  intro x hx
  obtain ⟨n, hn, e⟩ := List.mem_iff_getElem.1 hx
  have := h (n : Int) (by omega) (by omega)
  have e2 : rd_T67 fl (n : Int) = x := by simp [rd_T67, hn, e]
  rwa [e2] at this
theorem Mv.below0 {w0 w w' : World} {g : Nat} {v v' : Value} (hm : Mv w g v w' v') (hB : Below w0.heap.size w0 w) (hg : w0.heap.size ≤ g) (hv : ∀ k, v.ownBlock = some k → w0.heap.size ≤ k) : Below w0.heap.size w0 w' := hm.under hB hg hv
/-- The document's bytes are none of the outlet's memory. -/
def Apart (w : World) (g : Nat) (v m : Value) : Prop := ∀ k, m.ownBlock = some k → k ≠ g ∧ v.ownBlock ≠ some k ∧ k < w.heap.size
theorem Apart.move {w w' : World} {g : Nat} {v v' m : Value} (h : Apart w g v m) (hm : Mv w g v w' v') : Apart w' g v' m := by
  intro k hk
  obtain ⟨h1, h2, h3⟩ := h k hk
  refine ⟨h1, fun e => ?_, Nat.lt_of_lt_of_le h3 hm.1.size⟩
  rcases hm.2 with e2 | ⟨b, e2, hb⟩
  · exact h2 (by rw [← e2]; exact e)
  · rw [e] at e2; cases e2; omega
theorem Apart.new {w w' : World} {g : Nat} {v m m' : Value} (h : Apart w g v m) (hn : Nw w m m') (hI : ∀ k, Foot g v k → k < w.heap.size) (hs : w.heap.size ≤ w'.heap.size) (hl : ∀ k, m'.ownBlock = some k → k < w'.heap.size) : Apart w' g v m' := by
  intro k hk
  rcases hn k hk with e | e
  · obtain ⟨h1, h2, h3⟩ := h k e
    exact ⟨h1, h2, by omega⟩
  · exact ⟨fun e2 => by have := hI g (.inl rfl); omega, fun e2 => by have := hI k (.inr e2); omega, hl k hk⟩
theorem Apart.rd {w w' : World} {g : Nat} {v v' m : Value} {b : List Int} (h : Apart w g v m) (hr : Rd w m b) (hm : Mv w g v w' v') : Rd w' m b := hm.rd hr (fun k hk => ⟨(h k hk).1, (h k hk).2.1⟩)
theorem IsO.foot {w : World} {g : Nat} {v : Value} {l : List Int} (h : IsO w g v l) : ∀ k, Foot g v k → k < w.heap.size := fun k hk => by
  rcases hk with rfl | e
  · exact blk_lt h.1
  · exact h.2.1.lt k e
/-- Where both stand: the outlet holds the bytes b, the document's answer bm. -/
structure Stt (w W : World) (g : Nat) (v m : Value) (b bm : List Int) : Prop where
  io : IsO W g v b
  rd : Rd W m bm
  ap : Apart W g v m
  be : Below w.heap.size w W
  own : ∀ k, v.ownBlock = some k → w.heap.size ≤ k
  ge : w.heap.size ≤ g
theorem Stt.below {w W W1 : World} {g : Nat} {v m : Value} {b bm : List Int} (h : Stt w W g v m b bm) (hb : Below W.heap.size W W1) : Stt w W1 g v m b bm :=
  ⟨h.io.below hb, h.rd.below hb, h.ap.move ((Mv.refl W g v).below hb), below_step h.be hb, h.own, h.ge⟩
theorem Stt.move {w W W1 : World} {g : Nat} {v v1 m : Value} {b b1 bm : List Int} (h : Stt w W g v m b bm) (hi : IsO W1 g v1 b1) (hm : Mv W g v W1 v1) : Stt w W1 g v1 m b1 bm :=
  ⟨hi, h.ap.rd h.rd hm, h.ap.move hm, hm.under h.be h.ge h.own, hm.ge h.be h.own, h.ge⟩
theorem Stt.doc {w W W1 : World} {g : Nat} {v m m1 : Value} {b bm bm1 : List Int} (h : Stt w W g v m b bm) (hr : Rd W1 m1 bm1) (hn : Nw W m m1) (hb : Below W.heap.size W W1) : Stt w W1 g v m1 b bm1 :=
  ⟨h.io.below hb, hr, h.ap.new hn h.io.foot hb.size hr.lt, below_step h.be hb, h.own, h.ge⟩
theorem Stt.blk {w W W1 : World} {g r : Nat} {v v1 m : Value} {b bm : List Int} {o : Obj} (h : Stt w W g v m b bm) (hm : Mv W g v W1 v1) (hb : W.heap[r]? = some o) (h1 : r ≠ g ∧ ∀ k, v.ownBlock = some k → k ≠ r) : W1.heap[r]? = some o := hm.blk hb h1.1 h1.2
theorem Ef_two (x : S67) : (Ef x).2 = 0 ∨ (Ef x).2 = 1 ∧ (Ef x).1 = [] := by
  unfold Ef
  split
  · exact .inl rfl
  · exact .inr ⟨rfl, rfl⟩
theorem Stt.push {w W : World} {g : Nat} {v m : Value} {b bm : List Int} (h : Stt w W g v m b bm) (x0 x1 x2 : Int) (A3 : Option Addr) (c3 : Nat) (x3 : List Int) (hC : Kd.C (Kd.int .u8) W A3 x3.length x3) (hc3 : x3.length ≤ c3) (hl : x3.length ≤ 500) (hb : b.length ≤ 100000000) :
    Calls Try.prog 40 #[.pointer (some ⟨g, 0, none⟩), .agg #[.int .i64 x0, .int .i64 x1, .int .i64 x2, .slice A3 x3.length c3]] W fun e w' => e = .returned (.int .i64 (Ef ⟨x0, x1, x2, x3⟩).2) ∧ ∃ v', Stt w w' g v' m (b ++ (Ef ⟨x0, x1, x2, x3⟩).1) bm ∧ Mv W g v w' v' := by
  have hlen := Ef_len ⟨x0, x1, x2, x3⟩ hl
  rcases hE : Ef ⟨x0, x1, x2, x3⟩ with ⟨r1, r2⟩
  rw [hE] at hlen
  have hf := (Ef_prog ⟨x0, x1, x2, x3⟩).trans (congrArg some hE)
  have h2 := Ef_two ⟨x0, x1, x2, x3⟩
  rw [hE] at h2
  rcases h2 with rfl | ⟨rfl, rfl⟩
  · refine (outlet_Push.ok 20 W g v b x0 x1 x2 A3 c3 x3 r1 h.io hC hc3 hf (by simp only [] at hlen; omega)).mono ?_
    rintro e w' ⟨rfl, v', hI, hk, ho⟩
    exact ⟨rfl, v', h.move hI ⟨hk, ho⟩, hk, ho⟩
  · refine (outlet_Push.bad 20 W (some ⟨g, 0, none⟩) x0 x1 x2 A3 c3 x3 [] 1 hC hc3 hf (.inr (by decide))).mono ?_
    rintro e w' ⟨rfl, hB⟩
    refine ⟨rfl, v, ?_, (Mv.refl W g v).below hB⟩
    rw [List.append_nil]
    exact h.below hB
theorem Stt.pushDoc {w W : World} {g : Nat} {v m : Value} {b bm : List Int} (h : Stt w W g v m b bm) (x0 x1 x2 : Int) (A3 : Option Addr) (c3 : Nat) (x3 : List Int) (hC : Kd.C (Kd.int .u8) W A3 x3.length x3) (hc3 : x3.length ≤ c3) (hl : x3.length ≤ 500) (hb : bm.length ≤ 100000000) :
    Calls Try.prog 41 #[m, .agg #[.int .i64 x0, .int .i64 x1, .int .i64 x2, .slice A3 x3.length c3]] W fun e w' => ∃ m', e = .returned (.tuple #[m', .int .i64 (Ef ⟨x0, x1, x2, x3⟩).2]) ∧ Stt w w' g v m' b (bm ++ (Ef ⟨x0, x1, x2, x3⟩).1) ∧ Below W.heap.size W w' := by
  have hlen := Ef_len ⟨x0, x1, x2, x3⟩ hl
  rcases hE : Ef ⟨x0, x1, x2, x3⟩ with ⟨r1, r2⟩
  rw [hE] at hlen
  have hf := (Ef_ref ⟨x0, x1, x2, x3⟩).trans (congrArg some hE)
  have h2 := Ef_two ⟨x0, x1, x2, x3⟩
  rw [hE] at h2
  rcases h2 with rfl | ⟨rfl, rfl⟩
  · obtain ⟨A, c, rfl, hc, hCb, hlt⟩ := h.rd
    refine (r14_Push.ok 20 W A c bm x0 x1 x2 A3 c3 x3 r1 hCb hc hC hc3 hf (by simp only [] at hlen; omega)).mono ?_
    rintro e w' ⟨m', rfl, hG, hB, hn⟩
    exact ⟨m', rfl, h.doc (Rd.of_Gr hG) (fun k hk => .inr (hn k hk)) hB, hB⟩
  · refine (r14_Push.bad 20 W m x0 x1 x2 A3 c3 x3 [] 1 hC hc3 hf (by decide)).mono ?_
    rintro e w' ⟨rfl, hB⟩
    refine ⟨m, rfl, ?_, hB⟩
    rw [List.append_nil]
    exact h.below hB
end Go.Proofs.Ytbmnplojpeabmaa.QO

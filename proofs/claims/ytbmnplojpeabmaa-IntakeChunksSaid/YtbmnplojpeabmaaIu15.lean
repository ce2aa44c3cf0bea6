/-
  INTAKE: the chunks' law: what it holds.
  Conditions: none of its own; lemmas that the claim's row rests on.
-/
import Derived.Test.YtbmnplojpeabmaaIu14
import Derived.Test.YtbmnplojpeabmaaIu12
import Derived.WalkKit
namespace Go.Proofs.Ytbmnplojpeabmaa.It
open Go.RowKit Go.Proofs.YtbmnplojpeabmaaW.PrintWords Go.Proofs.YtbmnplojpeabmaaW.PrintLast Go.Proofs.YtbmnplojpeabmaaW.PrintMore
attribute [local go_sem] max2_int min2_int max_two min_two max_three min_three max_four min_four
set_option linter.unusedVariables false
set_option linter.unusedSimpArgs false
open Go.Proofs.Ytbmnplojpeabmaa.Ob Go.Proofs.Ytbmnplojpeabmaa.QI Go.Proofs.Ytbmnplojpeabmaa.FramePure Go.Proofs.Ytbmnplojpeabmaa.WirePure Go.Proofs.Ytbmnplojpeabmaa.IntakePure
structure S104 where
  f0 : (List Int)
  f1 : Int
def z104 : S104 := ⟨([] : List Int), (0 : Int)⟩
def k104 : Kd S104 := Kd.iso (Kd.pair (Kd.slice 5 (Kd.int .u8)) (Kd.int .u8)) (fun x : S104 => (x.f0, x.f1))
theorem k104_open {w : World} {x : S104} {cs : List Value} (h : k104.K w x cs) : ∃ A0 c0, cs = [.slice A0 x.f0.length c0, .int .u8 x.f1] ∧ x.f0.length ≤ c0 ∧ (Kd.int .u8).C w A0 x.f0.length x.f0 := by
  obtain ⟨_, _, rfl, ⟨A0, c0, rfl, l0, g0⟩, rfl⟩ := h
  exact ⟨A0, c0, rfl, l0, g0⟩
def rd_T104 (xs : List S104) (i : Int) : S104 := xs.getD i.toNat z104
theorem at_T104 {w : World} {A : Option Addr} {n : Nat} {xs : List S104} (h : Kd.C k104 w A n xs) (i : Int) (h0 : 0 ≤ i) (h1 : i < n) : ∃ ad A0 c0, A = some ad ∧ w.cell? (ad.add (i.toNat * 2)) = some (.slice A0 (rd_T104 xs i).f0.length c0) ∧ w.cell? ⟨(ad.add (i.toNat * 2)).block, (ad.add (i.toNat * 2)).off + 1, none⟩ = some (.int .u8 (rd_T104 xs i).f1) ∧ (rd_T104 xs i).f0.length ≤ c0 ∧ (Kd.int .u8).C w A0 (rd_T104 xs i).f0.length (rd_T104 xs i).f0 := by
  obtain ⟨ad, c, e, _, hK, hc0⟩ := Kd.C_get h z104 i h0 h1
  have hc : ∀ j u, c[j]? = some u → w.cell? (ad.add (i.toNat * 2 + j)) = some u := hc0
  obtain ⟨A0, c0, rfl, l0, g0⟩ := k104_open hK
  exact ⟨ad, A0, c0, e, hc 0 _ rfl, by rw [← add_field _ _ 1 (by omega)]; exact hc 1 _ rfl, l0, g0⟩
theorem rd104_mem {l : List S104} {P : S104 → Prop} (h : ∀ x ∈ l, P x) (i : Int) (h0 : 0 ≤ i) (h1 : i < l.length) : P (rd_T104 l i) := by
  have hi : i.toNat < l.length := by omega
  have e : rd_T104 l i = l[i.toNat] := by simp [rd_T104, hi]
  rw [e]
  exact h _ (List.getElem_mem hi)
theorem ansI_len (most : Int) {l : List Int} {bg : Bool} {ov : Int} (hb : Bytes l) : (ansI most l bg ov).1.f3.length ≤ l.length := by
  unfold ansI
  split
  · exact Nat.zero_le _
  · split
    · exact Nat.zero_le _
    · rcases nx_ways most hb with e | ⟨_, _, e⟩ | ⟨v, _, _, hl, e⟩ <;> rw [e]
      · exact Nat.zero_le _
      · exact Nat.zero_le _
      · show ((l.take (9 + v)).drop 9).length ≤ l.length
        rw [List.length_drop, List.length_take]
        omega
/-- What the law's own rows may lead to: none of what the two intakes write, none of the row of all bytes. -/
def okT (w0 : World) (gt : Nat) (vt : Value) (gu : Nat) (vu va : Value) (k : Nat) : Prop := ¬ FootT gt vt k ∧ ¬ FootT gu vu k ∧ va.ownBlock ≠ some k ∧ w0.heap.size ≤ k
/-- Two intakes, all that came, all that is told. -/
structure Ch (w0 W : World) (gt : Nat) (vt : Value) (lt : List Int) (bt : Bool) (ot : Int) (gu : Nat) (vu : Value) (lu : List Int) (bu : Bool) (ou : Int) (va : Value) (all : List Int) (vo : Value) (told : List S67) : Prop where
  t : IsT W gt 16384 vt lt bt ot
  u : IsT W gu 16384 vu lu bu ou
  p : Pair w0 W gt vt gu vu
  al : Gr (Value.int .u8) u8one 5 W va all
  ala : ∀ k, va.ownBlock = some k → ¬ FootT gt vt k ∧ ¬ FootT gu vu k ∧ w0.heap.size ≤ k
  tl : Kd.N k67 67 W w0.heap.size (okT w0 gt vt gu vu va) vo told
section
variable {w0 W W' : World} {gt gu : Nat} {vt vt' vu vu' va va' vo vo' : Value} {lt lu lt' lu' all all' : List Int} {bt bu bt' bu' : Bool} {ot ou ot' ou' : Int} {told told' : List S67}
theorem Ch.below (h : Ch w0 W gt vt lt bt ot gu vu lu bu ou va all vo told) (hb : Below W.heap.size W W') : Ch w0 W' gt vt lt bt ot gu vu lu bu ou va all vo told :=
  ⟨h.t.below hb, h.u.below hb, h.p.below hb, h.al.below hb, h.ala, Kd.N_below h.tl hb⟩
theorem okT_left {k : Nat} (h : okT w0 gt vt gu vu va k) (hlt : k < W.heap.size) (hm : Mt W gt vt W' vt') : okT w0 gt vt' gu vu va k :=
  ⟨fun hk => (hm.foot k hk).elim h.1 (fun h2 => by omega), h.2⟩
theorem Ch.left (h : Ch w0 W gt vt lt bt ot gu vu lu bu ou va all vo told) (ht : IsT W' gt 16384 vt' lt' bt' ot') (hm : Mt W gt vt W' vt') : Ch w0 W' gt vt' lt' bt' ot' gu vu lu bu ou va all vo told :=
  ⟨ht, h.u.keeps hm.1 (fun k hk hs => h.p.ap k hs hk), h.p.left hm ht.foot, h.al.keeps hm.1 (fun k hk hs => (h.ala k hk).1 hs),
    fun k hk => ⟨fun h2 => (hm.foot k h2).elim (h.ala k hk).1 (fun h3 => by have := h.al.lt k hk; omega), (h.ala k hk).2⟩,
    Kd.N_mono (Kd.N_step (Kd.N_bound h.tl) (fun k hk hlt => hm.1.block k hlt hk.1.1)) (fun k hk => okT_left hk.1 hk.2 hm)⟩
theorem okT_swap {k : Nat} (h : okT w0 gt vt gu vu va k) : okT w0 gu vu gt vt va k := ⟨h.2.1, h.1, h.2.2⟩
theorem Ch.swap (h : Ch w0 W gt vt lt bt ot gu vu lu bu ou va all vo told) : Ch w0 W gu vu lu bu ou gt vt lt bt ot va all vo told :=
  ⟨h.u, h.t, h.p.swap, h.al, fun k hk => ⟨(h.ala k hk).2.1, (h.ala k hk).1, (h.ala k hk).2.2⟩, Kd.N_mono h.tl (fun k hk => okT_swap hk)⟩
/-- The row of all bytes grew. -/
theorem Ch.grow (h : Ch w0 W gt vt lt bt ot gu vu lu bu ou va all vo told) (hG : Gr (Value.int .u8) u8one 5 W' va' all') (hg : W.grownBy W' va.ownBlock) (hat : va'.ownBlock = va.ownBlock ∨ ∃ b, va'.ownBlock = some b ∧ W.heap.size ≤ b) :
    Ch w0 W' gt vt lt bt ot gu vu lu bu ou va' all' vo told := by
  have hk : Keeps W W' (fun k => va.ownBlock = some k) := (Keeps.refl _ _).grown hg (fun k e => .inl e)
  have ho : ∀ k, va'.ownBlock = some k → va.ownBlock = some k ∨ W.heap.size ≤ k := fun k e => by
    rcases hat with h1 | ⟨b, h1, h2⟩
    · exact .inl (by rw [← h1]; exact e)
    · rw [h1] at e; cases e; exact .inr h2
  have hlt : ∀ k, FootT gt vt k ∨ FootT gu vu k → k < W.heap.size := fun k hk => hk.elim (h.p.lt k) (h.p.lu k)
  refine ⟨h.t.keeps hk (fun k h1 h2 => (h.ala k h2).1 h1), h.u.keeps hk (fun k h1 h2 => (h.ala k h2).2.1 h1), ⟨h.p.ap, fun k h1 => Nat.lt_of_lt_of_le (h.p.lt k h1) hk.size, fun k h1 => Nat.lt_of_lt_of_le (h.p.lu k h1) hk.size, hk.under h.p.be (fun k h1 => (h.ala k h1).2.2), h.p.gt_, h.p.gu_⟩, hG, fun k e => ?_, ?_⟩
  · rcases ho k e with h1 | h1
    · exact h.ala k h1
    · exact ⟨fun h2 => by have := hlt k (.inl h2); omega, fun h2 => by have := hlt k (.inr h2); omega, Nat.le_trans h.p.be.size h1⟩
  · refine Kd.N_mono (Kd.N_step (Kd.N_bound h.tl) (fun k hk2 hl => hk.block k hl hk2.1.2.2.1)) (fun k hk2 => ⟨hk2.1.1, hk2.1.2.1, fun e => ?_, hk2.1.2.2.2⟩)
    rcases ho k e with h1 | h1
    · exact hk2.1.2.2.1 h1
    · have := hk2.2; omega
/-- What is told grew. -/
theorem Ch.tell (h : Ch w0 W gt vt lt bt ot gu vu lu bu ou va all vo told) (hN : Kd.N k67 67 W' w0.heap.size (okT w0 gt vt gu vu va) vo' told') (hg : W.grownBy W' vo.ownBlock) :
    Ch w0 W' gt vt lt bt ot gu vu lu bu ou va all vo' told' := by
  have hk : Keeps W W' (fun k => vo.ownBlock = some k) := (Keeps.refl _ _).grown hg (fun k e => .inl e)
  exact ⟨h.t.keeps hk (fun k h1 h2 => (h.tl.1 k h2).1 h1), h.u.keeps hk (fun k h1 h2 => (h.tl.1 k h2).2.1 h1), ⟨h.p.ap, fun k h1 => Nat.lt_of_lt_of_le (h.p.lt k h1) hk.size, fun k h1 => Nat.lt_of_lt_of_le (h.p.lu k h1) hk.size, hk.under h.p.be (fun k h1 => (h.tl.1 k h1).2.2.2), h.p.gt_, h.p.gu_⟩, h.al.keeps hk (fun k h1 h2 => (h.tl.1 k h2).2.2.1 h1), h.ala, hN⟩
theorem Ch.fresh (h : Ch w0 W gt vt lt bt ot gu vu lu bu ou va all vo told) : ∀ k, W.heap.size ≤ k → okT w0 gt vt gu vu va k := fun k hk =>
  ⟨fun h1 => by have := h.p.lt k h1; omega, fun h1 => by have := h.p.lu k h1; omega, fun h1 => by have := h.al.lt k h1; omega, Nat.le_trans h.p.be.size hk⟩
theorem Ch.feed (h : Ch w0 W gt vt lt bt ot gu vu lu bu ou va all vo told) (A3 : Option Addr) (c3 : Nat) (l3 : List Int) (hr3 : Kd.C (Kd.int .u8) W A3 l3.length l3) (hc3 : l3.length ≤ c3) (hl : lt.length + l3.length ≤ 140737488355328) (hb : Bytes lt) (hb3 : Bytes l3) :
    Calls Try.prog 68 #[.pointer (some ⟨gt, 0, none⟩), .slice A3 l3.length c3] W fun e w' => ∃ v0, e = .returned v0 ∧ ∃ v', Ch w0 w' gt v' (feedI lt bt ot l3).1 (feedI lt bt ot l3).2.1 (feedI lt bt ot l3).2.2 gu vu lu bu ou va all vo told := by
  refine (intake_Feed.is h.t hr3 hc3 hl hb hb3).mono ?_
  rintro e w' ⟨v0, rfl, v', hI, hm⟩
  exact ⟨v0, rfl, v', h.left hI hm⟩
/-- All frames are told: a row of them, in new memory. -/
theorem Ch.frames (h : Ch w0 W gt vt lt bt ot gu vu lu bu ou va all vo told) (hb : Bytes lt) (hl : lt.length ≤ 100000) (F : List S67 × (List Int × Int) × Int) (hF : frs 16384 8889 lt bt ot = F) :
    Calls Try.prog 76 #[.pointer (some ⟨gt, 0, none⟩)] W fun e w' => ∃ vs, e = .returned (.tuple #[vs, .int .i64 F.2.2]) ∧ Kd.N k67 67 w' W.heap.size (fun k => W.heap.size ≤ k) vs F.1 ∧ ∃ v', Ch w0 w' gt v' F.2.1.1 bt F.2.1.2 gu vu lu bu ou va all vo told ∧ (∀ k, W.heap.size ≤ k → okT w0 gt v' gu vu va k) ∧ (∀ k, vo.ownBlock = some k → k < W.heap.size) := by
  refine (gantletlaw13_frames.is h.t hb hl F hF).mono ?_
  rintro e w' ⟨vs, rfl, hN, v', hI, hm⟩
  refine ⟨vs, rfl, hN, v', h.left hI hm.mt, fun k hk => ?_, Kd.N_lt h.tl⟩
  obtain ⟨h1, h2, h3, h4⟩ := h.fresh k hk
  exact ⟨fun h5 => h1 (h5.elim .inl (fun h6 => .inr (hm.2 k h6))), h2, h3, h4⟩
end
end Go.Proofs.Ytbmnplojpeabmaa.It

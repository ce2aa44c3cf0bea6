/-
  INTAKE: two of them.
  Conditions: none of its own; lemmas that the claim's row rests on.
-/
import Derived.Test.YtbmnplojpeabmaaIu10
import Derived.WalkKit
import Derived.Lib.SlBytesConst
namespace Go.Proofs.Ytbmnplojpeabmaa.It
open Go.RowKit Go.Proofs.YtbmnplojpeabmaaW.PrintWords Go.Proofs.YtbmnplojpeabmaaW.PrintLast Go.Proofs.YtbmnplojpeabmaaW.PrintMore
attribute [local go_sem] max2_int min2_int max_two min_two max_three min_three max_four min_four
set_option linter.unusedVariables false
set_option linter.unusedSimpArgs false
open Go.Proofs.Ytbmnplojpeabmaa.Ob Go.Proofs.Ytbmnplojpeabmaa.QI Go.Proofs.Ytbmnplojpeabmaa.FramePure Go.Proofs.Ytbmnplojpeabmaa.WirePure Go.Proofs.Ytbmnplojpeabmaa.IntakePure
theorem C_nil8 (w : World) (A : Option Addr) : Kd.C (Kd.int .u8) w A 0 [] := ⟨rfl, by decide, fun h => absurd h (Nat.lt_irrefl 0)⟩
theorem C_blk8 {W : World} {gp : Nat} {t : TypeId} {fz : Nat × Nat} {xs : List Int} (hb : W.heap[gp]? = some (.cells (xs.map (Value.int .u8)).toArray t fz)) (hs : xs.length ≤ 9223372036854775807) : Kd.C (Kd.int .u8) W (some ⟨gp, 0, none⟩) xs.length xs := by
  refine Kd.C_of_reads (enc := Value.int .u8) (d := (0 : Int)) ⟨rfl, hs, fun _ => ⟨_, rfl, fun j hj => ?_⟩⟩
  rw [Addr.add_lit, Nat.zero_add]
  unfold World.cell?
  rw [hb]
  simp [hj]
def OP : Obj := .cells (PRE.map (Value.int .u8)).toArray 5 (24, 25)
theorem intake_Preface.blk (w : World) : Calls Try.prog 77 #[] w fun e w' => e = .returned (.slice (some ⟨w.heap.size, 0, none⟩) 24 24) ∧ w' = w.alloc OP := by
  have kc := fun (w : World) (C : Array Value) (n c : Nat) => Lib.run_convert_bytes_const (P := Try.prog) w 22 5 C n c Try.underlying22 Try.underlying5
  go_enter Try.func77, Try.ntmps77
  go_wp2
  go_ret
  exact ⟨rfl, rfl⟩
/-- None of what two may write. -/
def Oth (W : World) (gt : Nat) (vt : Value) (gu : Nat) (vu : Value) (k : Nat) : Prop := k < W.heap.size ∧ ¬ FootT gt vt k ∧ ¬ FootT gu vu k
theorem Oth.left {W W' : World} {gt gu k : Nat} {vt vt' vu : Value} (h : Oth W gt vt gu vu k) (hm : Mt W gt vt W' vt') : Oth W' gt vt' gu vu k ∧ W'.heap[k]? = W.heap[k]? := by
  obtain ⟨h1, h2, h3⟩ := h
  refine ⟨⟨Nat.lt_of_lt_of_le h1 hm.1.size, fun hk => ?_, h3⟩, hm.1.block k h1 h2⟩
  rcases hk with rfl | hk
  · exact h2 (.inl rfl)
  · rcases hm.2 k hk with h4 | h4
    · exact h2 (.inr h4)
    · omega
theorem Oth.right {W W' : World} {gt gu k : Nat} {vt vu vu' : Value} (h : Oth W gt vt gu vu k) (hm : Mt W gu vu W' vu') : Oth W' gt vt gu vu' k ∧ W'.heap[k]? = W.heap[k]? := by
  obtain ⟨h1, h2, h3⟩ := h
  have := Oth.left (W := W) (W' := W') (gt := gu) (vt := vu) (vt' := vu') (gu := gt) (vu := vt) ⟨h1, h3, h2⟩ hm
  exact ⟨⟨this.1.1, this.1.2.2, this.1.2.1⟩, this.2⟩
/-- Two that write apart, both of memory that is newer than w0. -/
structure Pair (w0 W : World) (gt : Nat) (vt : Value) (gu : Nat) (vu : Value) : Prop where
  ap : ∀ k, FootT gt vt k → ¬ FootT gu vu k
  lt : ∀ k, FootT gt vt k → k < W.heap.size
  lu : ∀ k, FootT gu vu k → k < W.heap.size
  be : Below w0.heap.size w0 W
  gt_ : ∀ k, FootT gt vt k → w0.heap.size ≤ k
  gu_ : ∀ k, FootT gu vu k → w0.heap.size ≤ k
theorem Pair.swap {w0 W : World} {gt gu : Nat} {vt vu : Value} (h : Pair w0 W gt vt gu vu) : Pair w0 W gu vu gt vt := ⟨fun k hk h2 => h.ap k h2 hk, h.lu, h.lt, h.be, h.gu_, h.gt_⟩
theorem Mt.foot {W W' : World} {g : Nat} {v v' : Value} (hm : Mt W g v W' v') : ∀ k, FootT g v' k → FootT g v k ∨ W.heap.size ≤ k := fun k hk => by
  rcases hk with h | h
  · exact .inl (.inl h)
  · exact (hm.2 k h).imp (fun h => .inr h) id
theorem Pair.left {w0 W W' : World} {gt gu : Nat} {vt vt' vu : Value} (h : Pair w0 W gt vt gu vu) (hm : Mt W gt vt W' vt') (hl : ∀ k, FootT gt vt' k → k < W'.heap.size) : Pair w0 W' gt vt' gu vu :=
  ⟨fun k hk h2 => (hm.foot k hk).elim (fun h3 => h.ap k h3 h2) (fun h3 => by have := h.lu k h2; omega), hl, fun k hk => Nat.lt_of_lt_of_le (h.lu k hk) hm.1.size, hm.1.under h.be h.gt_,
    fun k hk => (hm.foot k hk).elim (h.gt_ k) (fun h3 => Nat.le_trans h.be.size h3), h.gu_⟩
theorem Pair.below {w0 W W' : World} {gt gu : Nat} {vt vu : Value} (h : Pair w0 W gt vt gu vu) (hb : Below W.heap.size W W') : Pair w0 W' gt vt gu vu :=
  ⟨h.ap, fun k hk => Nat.lt_of_lt_of_le (h.lt k hk) hb.size, fun k hk => Nat.lt_of_lt_of_le (h.lu k hk) hb.size, below_step h.be hb, h.gt_, h.gu_⟩
theorem IsT.foot {w : World} {g : Nat} {most ov : Int} {v : Value} {l : List Int} {bg : Bool} (h : IsT w g most v l bg ov) : ∀ k, FootT g v k → k < w.heap.size := fun k hk => by
  rcases hk with rfl | hk
  · exact blk_lt h.1
  · exact h.2.1.lt k hk
theorem Mt.of_below {W W' : World} (g : Nat) (v : Value) (hb : Below W.heap.size W W') : Mt W g v W' v := ⟨Keeps.of_below hb _, fun k hk => .inl hk⟩
/-- Two intakes, and blocks that stay. -/
structure Al (w0 W : World) (gt : Nat) (vt : Value) (lt : List Int) (bt : Bool) (ot : Int) (gu : Nat) (vu : Value) (lu : List Int) (bu : Bool) (ou : Int) (Fx : Nat → Obj → Prop) : Prop where
  t : IsT W gt 16384 vt lt bt ot
  u : IsT W gu 16384 vu lu bu ou
  p : Pair w0 W gt vt gu vu
  fx : ∀ k o, Fx k o → W.heap[k]? = some o ∧ Oth W gt vt gu vu k
section
variable {w0 W W' : World} {gt gu : Nat} {vt vt' vu vu' : Value} {lt lu lt' lu' : List Int} {bt bu bt' bu' : Bool} {ot ou ot' ou' : Int} {Fx : Nat → Obj → Prop}
theorem Al.left (h : Al w0 W gt vt lt bt ot gu vu lu bu ou Fx) (ht : IsT W' gt 16384 vt' lt' bt' ot') (hm : Mt W gt vt W' vt') : Al w0 W' gt vt' lt' bt' ot' gu vu lu bu ou Fx :=
  ⟨ht, h.u.keeps hm.1 (fun k hk hs => h.p.ap k hs hk), h.p.left hm ht.foot, fun k o hf => ⟨((h.fx k o hf).2.left hm).2.trans (h.fx k o hf).1, ((h.fx k o hf).2.left hm).1⟩⟩
theorem Al.swap (h : Al w0 W gt vt lt bt ot gu vu lu bu ou Fx) : Al w0 W gu vu lu bu ou gt vt lt bt ot Fx := ⟨h.u, h.t, h.p.swap, fun k o hf => ⟨(h.fx k o hf).1, (h.fx k o hf).2.1, (h.fx k o hf).2.2.2, (h.fx k o hf).2.2.1⟩⟩
theorem Al.below (h : Al w0 W gt vt lt bt ot gu vu lu bu ou Fx) (hb : Below W.heap.size W W') : Al w0 W' gt vt lt bt ot gu vu lu bu ou Fx :=
  ⟨h.t.below hb, h.u.below hb, h.p.below hb, fun k o hf => ⟨(hb.block k (h.fx k o hf).2.1).trans (h.fx k o hf).1, Nat.lt_of_lt_of_le (h.fx k o hf).2.1 hb.size, (h.fx k o hf).2.2⟩⟩
theorem Al.alloc (h : Al w0 W gt vt lt bt ot gu vu lu bu ou Fx) (o : Obj) : Al w0 (W.alloc o) gt vt lt bt ot gu vu lu bu ou Fx := h.below (below_alloc (Below.refl _ _) o)
/-- A block that is made, and stays. -/
theorem Al.add (h : Al w0 W gt vt lt bt ot gu vu lu bu ou Fx) (o : Obj) (ho : (W.alloc o).heap[W.heap.size]? = some o) : Al w0 (W.alloc o) gt vt lt bt ot gu vu lu bu ou (fun k o' => Fx k o' ∨ (k = W.heap.size ∧ o' = o)) :=
  ⟨(h.alloc o).t, (h.alloc o).u, (h.alloc o).p, fun k o' hf => by
    rcases hf with hf | ⟨rfl, rfl⟩
    · exact (h.alloc o).fx k o' hf
    · exact ⟨ho, by rw [World.size_alloc]; omega, fun hk => by have := h.p.lt _ hk; omega, fun hk => by have := h.p.lu _ hk; omega⟩⟩
theorem Al.feed (h : Al w0 W gt vt lt bt ot gu vu lu bu ou Fx) (A3 : Option Addr) (c3 : Nat) (l3 : List Int) (hr3 : Kd.C (Kd.int .u8) W A3 l3.length l3) (hc3 : l3.length ≤ c3) (hl : lt.length + l3.length ≤ 140737488355328) (hb : Bytes lt) (hb3 : Bytes l3) :
    Calls Try.prog 68 #[.pointer (some ⟨gt, 0, none⟩), .slice A3 l3.length c3] W fun e w' => ∃ v0, e = .returned v0 ∧ ∃ v', Al w0 w' gt v' (feedI lt bt ot l3).1 (feedI lt bt ot l3).2.1 (feedI lt bt ot l3).2.2 gu vu lu bu ou Fx ∧ Mt W gt vt w' v' := by
  refine (intake_Feed.is h.t hr3 hc3 hl hb hb3).mono ?_
  rintro e w' ⟨v0, rfl, v', hI, hm⟩
  exact ⟨v0, rfl, v', h.left hI hm, hm⟩
theorem Al.next (h : Al w0 W gt vt lt bt ot gu vu lu bu ou Fx) (hb : Bytes lt) (hl : lt.length ≤ 140737488350000) :
    Calls Try.prog 70 #[.pointer (some ⟨gt, 0, none⟩)] W fun e w' => Hands W w' e (ansI 16384 lt bt ot) ∧ ∃ v', Al w0 w' gt v' (nextI 16384 lt bt ot).1 bt (nextI 16384 lt bt ot).2 gu vu lu bu ou Fx ∧ Mt W gt vt w' v' := by
  refine (intake_Next.is h.t hb hl).mono ?_
  rintro e w' ⟨hH, v', hI, hm⟩
  exact ⟨hH, v', h.left hI hm.mt, hm.mt⟩
end
theorem Hands.z {w w' : World} {e : Ending} {x : Int} (h : Hands w w' e (zF, x)) : ∃ A3 c3, e = .returned (.tuple #[.agg #[.int .i64 0, .int .i64 0, .int .i64 0, .slice A3 0 c3], .int .i64 x]) := by
  obtain ⟨A3, c3, rfl, _, _⟩ := h
  exact ⟨A3, c3, rfl⟩
theorem bytes_dec {l : List Int} (h : (l.all fun x => decide (0 ≤ x ∧ x < 256)) = true) : Bytes l := fun x hx => of_decide_eq_true (List.all_eq_true.1 h x hx)
end Go.Proofs.Ytbmnplojpeabmaa.It

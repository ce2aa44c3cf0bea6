/-
  CONTROL: alive.
  Conditions: none of its own; lemmas that the claim's row rests on.
-/
import Derived.Test.YtbmnplojpeabmaaCtB
import Derived.Test.YtbmnplojpeabmaaCtC
import Derived.Test.YtbmnplojpeabmaaCtD
import Derived.Test.YtbmnplojpeabmaaCtE
import Derived.Test.YtbmnplojpeabmaaCtF
import Derived.WalkKit
namespace Go.Proofs.Ytbmnplojpeabmaa.QK
open Go.RowKit Go.Proofs.YtbmnplojpeabmaaW.PrintWords Go.Proofs.YtbmnplojpeabmaaW.PrintLast Go.Proofs.YtbmnplojpeabmaaW.PrintMore
attribute [local go_sem] max2_int min2_int max_two min_two max_three min_three max_four min_four
set_option linter.unusedVariables false
set_option linter.unusedSimpArgs false
open Go.Proofs.Ytbmnplojpeabmaa.Ob
/-- A queue that has come behind the world w0, with blocks that stay. -/
structure StC (w0 W : World) (g : Nat) (room : Int) (l : List S67) (ended : Bool) (v : Value) (ok : Nat → Prop) (Kp : Nat → Obj → Prop) : Prop where
  io : IsC W g room v l ended ok
  be : Below w0.heap.size w0 W
  ge : w0.heap.size ≤ g
  own : ∀ k, v.ownBlock = some k → w0.heap.size ≤ k
  kp : ∀ b o, Kp b o → W.heap[b]? = some o ∧ b ≠ g ∧ v.ownBlock ≠ some b
section
variable {w0 W W1 : World} {g : Nat} {room : Int} {l l1 : List S67} {e e1 : Bool} {v v1 : Value} {ok ok1 : Nat → Prop} {Kp : Nat → Obj → Prop}
theorem StC.move (h : StC w0 W g room l e v ok Kp) (hI : IsC W1 g room v1 l1 e1 ok1) (hm : MvC W g v ok W1 v1 ok1) : StC w0 W1 g room l1 e1 v1 ok1 Kp :=
  ⟨hI, hm.1.under h.be (fun k hk => by rcases hk with rfl | hk; exact h.ge; exact h.own k hk), h.ge, fun k hk => by rcases hm.2.1 k hk with h1 | h1; exact h.own k h1; exact Nat.le_trans h.be.size h1,
    fun b o hb => by
      obtain ⟨h1, h2, h3⟩ := h.kp b o hb
      refine ⟨(hm.1.block b (blk_lt h1) (fun hk => by rcases hk with h4 | h4; exact h2 h4; exact h3 h4)).trans h1, h2, fun h4 => ?_⟩
      rcases hm.2.1 b h4 with h5 | h5
      · exact h3 h5
      · have := blk_lt h1; omega⟩
theorem StC.below (h : StC w0 W g room l e v ok Kp) (hb : Below W.heap.size W W1) : StC w0 W1 g room l e v ok Kp := h.move (h.io.below hb) (MvC.of_below hb)
theorem StC.alloc (h : StC w0 W g room l e v ok Kp) (o : Obj) : StC w0 (W.alloc o) g room l e v ok (fun b o' => Kp b o' ∨ (b = W.heap.size ∧ o' = o)) := by
  have h1 := h.below (below_alloc (Below.refl W.heap.size W) o)
  refine ⟨h1.io, h1.be, h1.ge, h1.own, fun b o' hb => ?_⟩
  rcases hb with hb | ⟨rfl, rfl⟩
  · exact h1.kp b o' hb
  · refine ⟨blk_new W o', ?_, ?_⟩
    · have := blk_lt h.io.blk; omega
    · intro hk; have := Kd.N_lt h.io.row _ hk; omega
end
theorem C_ints {w : World} {g t : Nat} {cs : Array Value} (l : List Int) (hb : w.heap[g]? = some (.cells cs t (0, 0))) (hc : cs = (l.map (Value.int .u8)).toArray) (hx : l.length ≤ 9223372036854775807) : Kd.C (Kd.int .u8) w (some ⟨g, 0, none⟩) l.length l := by
  subst hc
  refine Kd.C_of_reads (enc := Value.int .u8) (d := (0 : Int)) ⟨rfl, hx, fun _ => ⟨_, rfl, fun j hj => ?_⟩⟩
  rw [Addr.add_lit, Nat.zero_add, blk_cell hb]
  simp [hj]
set_option maxHeartbeats 1600000 in
set_option maxRecDepth 100000 in
theorem gantletlaw19_alive.calls (w : World) : Calls Try.prog 46 #[] w fun e w' => e = .returned (.bool true) ∧ Below w.heap.size w w' := by
  have hu67 := Try.underlying67
  go_enter Try.func46, Try.ntmps46
  have HNEW : Aside0 True := ⟨trivial⟩
  go_wp2_with (first | (have h_ := HNEW; clear h_ HNEW; go_at_call 47; refine (control_New.ok 1 _ (by decide) (by decide)).mono ?_; rintro e_ w1 ⟨g, rfl, hI, hg, hb⟩; have HS0 : Aside0 (StC w w1 g 1 [] false _ _ (fun _ _ => False)) := ⟨⟨hI, hb, hg, (fun k hk => by cases hk), (fun b o h => h.elim)⟩⟩; clear hI hb hg) | (have h_ := HS0; clear h_; go_at_call 54; refine (control_Push.ok 6 0 0 (some ⟨w1.heap.size, 0, none⟩) 2 [1, 2] _ g 1 _ [] _ (HS0.out.below (below_alloc (Below.refl _ _) _)).io (C_ints [1, 2] (blk_new w1 _) rfl (by decide)) (by decide) (by decide) (by decide) (by decide)).mono ?_; rintro e_ w2 ⟨rfl, v2, ok2, hI, hm⟩; have HS1 := Aside0.mk ((HS0.out.below (below_alloc (Below.refl _ _) (.cells #[.int .u8 1, .int .u8 2] 5))).move hI hm); clear hI hm HS0) | (have h_ := HS1; clear h_; go_at_call 54; refine (control_Push.full 7 0 0 none 0 [] _ g 1 _ _ _ HS1.out.io (by decide)).mono ?_; rintro e_ w3 ⟨rfl, hb⟩; have HS2 := Aside0.mk (HS1.out.below hb); clear hb HS1) | (have h_ := HS2; clear h_; go_at_call 52; refine (control_Last.ok 8 0 0 (some ⟨w3.heap.size, 0, none⟩) 1 [3] _ g 1 _ _ _ (HS2.out.below (below_alloc (Below.refl _ _) _)).io (C_ints [3] (blk_new w3 _) rfl (by decide)) (by decide) (by decide) (by decide)).mono ?_; rintro e_ w4 ⟨rfl, v4, ok4, hI, hm⟩; have HS3 := Aside0.mk ((HS2.out.below (below_alloc (Below.refl _ _) (.cells #[.int .u8 3] 5))).move hI hm); clear hI hm HS2) | (have h_ := HS3; clear h_; go_at_call 57; refine (control_Bytes.is _ g 1 _ _ _ _ HS3.out.io (by decide) (by decide)).mono ?_; rintro e_ w5 ⟨rfl, hb⟩; rw [show sumF (([] ++ [(⟨6, 0, 0, [1, 2]⟩ : S67)]) ++ [⟨8, 0, 0, [3]⟩]) = 3 from rfl]; have HS4 := Aside0.mk (HS3.out.below hb); clear hb HS3) | (have h_ := HS4; clear h_; go_at_call 52; refine (control_Last.over 0 0 0 none 0 [] _ g 1 _ _ _ HS4.out.io).mono ?_; rintro e_ w6 ⟨rfl, hb⟩; have HS5 := Aside0.mk (HS4.out.below hb); clear hb HS4) | (have h_ := HS5; clear h_; go_at_call 49; refine (control_Pop.is _ _ _ g 1 _ _ _ HS5.out.io (by decide)).mono ?_; rintro e_ w7 ⟨A7, c7, v7, ok7, rfl, hc, hF, hI, hm, hown⟩; have HS6 := Aside0.mk (HS5.out.move hI hm); clear hc hF hI hm hown HS5) | (have h_ := HS6; clear h_; go_at_call 49; refine (control_Pop.is ⟨8, 0, 0, [3]⟩ [] _ g 1 _ _ _ (HS6.out.alloc _).io (by decide)).mono ?_; rintro e_ w8 ⟨A8, c8, v8, ok8, rfl, hc, hF, hI, hm, hown⟩; have HS7 := Aside0.mk ((HS6.out.alloc (.cells #[.int .i64 6, .int .i64 0, .int .i64 0, .slice A7 2 c7] 67)).move hI hm); clear hc hF hI hm hown HS6) | (have h_ := HS7; clear h_; go_at_call 49; refine (control_Pop.empty _ g 1 _ _ _ (HS7.out.alloc _).io).mono ?_; rintro e_ w9 ⟨rfl, hb⟩; have HS8 := Aside0.mk ((HS7.out.alloc (.cells #[.int .i64 8, .int .i64 0, .int .i64 0, .slice A8 1 c8] 67)).below hb); clear hb HS7) | (have h_ := HS8; clear h_; go_at_call 54; refine (control_Push.over 0 0 0 none 0 [] _ g 1 _ _ _ (HS8.out.alloc _).io).mono ?_; rintro e_ w10 ⟨rfl, hb⟩; have HS9 := Aside0.mk ((HS8.out.alloc (.cells #[.int .i64 0, .int .i64 0, .int .i64 0, .slice none 0 0] 67)).below hb); clear hb HS8) | (have h_ := HS9; clear h_; go_at_call 47; refine (control_New.bad 65 _ (by decide)).mono ?_; rintro e_ w11 ⟨rfl, rfl⟩; have qx : w11.cell? ⟨w7.heap.size, 0, none⟩ = some (.int .i64 6) := (blk_cell (HS9.out.kp w7.heap.size (.cells #[.int .i64 6, .int .i64 0, .int .i64 0, .slice A7 2 c7] 67 (0, 0)) (.inl (.inl (.inr ⟨rfl, rfl⟩)))).1 0).trans rfl; have qy : w11.cell? ⟨w8.heap.size, 0, none⟩ = some (.int .i64 8) := (blk_cell (HS9.out.kp w8.heap.size (.cells #[.int .i64 8, .int .i64 0, .int .i64 0, .slice A8 1 c8] 67 (0, 0)) (.inl (.inr ⟨rfl, rfl⟩))).1 0).trans rfl) | (go_at_call 59; refine (control_Ended.is HS9.out.io).mono ?_; rintro e_ w12 ⟨rfl, rfl⟩) | (go_at_call 56; refine (control_Len.is HS9.out.io).mono ?_; rintro e_ w13 ⟨rfl, rfl⟩))
  go_ret
  exact ⟨rfl, HS9.out.be⟩
end Go.Proofs.Ytbmnplojpeabmaa.QK

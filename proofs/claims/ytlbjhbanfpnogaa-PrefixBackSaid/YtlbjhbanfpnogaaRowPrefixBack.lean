/-
  THE ROW OF PrefixBack: for whatever arguments the law answers true and leaves them as they were.
  Condition: none.
-/
import Derived.Test.YtlbjhbanfpnogaaRows
import Derived.Test.YtlbjhbanfpnogaaQP4
import Derived.Test.YtlbjhbanfpnogaaPurePrefixBack
import Derived.Test.YtlbjhbanfpnogaaOpen
import Derived.Test.YtlbjhbanfpnogaaWSized
import Derived.WalkKit
import Derived.ProofKit
import Derived.OpenShut
import Derived.ShutString
import Derived.ChangeOld
import Derived.Below
import Derived.SizedLaws
namespace Go.Proofs.Ytlbjhbanfpnogaa.prefixBack
open Go.ChangeShapes Go.WideShapes Go.ChangeAt Go.RowKit Go.Proofs.YtlbjhbanfpnogaaW.PrintWords Go.Proofs.Ytlbjhbanfpnogaa.Opn
open Go.ChangeMaps (open_string shut_string)
set_option linter.unusedVariables false
theorem own : ownKnob Try.prog.godebug = none := by kernel_rfl
theorem laidOut : laidOutB Try.prog = true := by kernel_rfl
set_option maxRecDepth 100000 in
set_option maxHeartbeats 1000000 in
theorem lifted (os : Os) (started : os.Started) (H : Type) (enc : TypeId × Value → H) :
    ReturnsInHanded {} Try.checked os 4 .any (Rows.prefixBackSpec.pre6 enc Try.prog Try.f4 Rows.prefixBackRow.domain false) (Rows.prefixBackSpec.post enc Try.prog Try.f4 false true false false) := by
  refine returnsInHanded_of_change_sized (C := Try.checked) own started (by kernel_rfl) Try.func4
    (ChangeSpec.witness6 (enc := enc) (C := Try.checked) false ⟨#[], #[.agg #[.int .i64 0, .int .i64 0], .agg #[.int .u8 0, .int .u8 0, .int .u8 0], .slice none 0 0], []⟩ 8 (by kernel_rfl) (by kernel_rfl) (by kernel_rfl) (by kernel_rfl)) ?_
  intro W base args ds gs before hval0 hW hcnd hsz0 _
  have hsz : (DataW.weightsEach Try.prog (Try.f4.params.toList ++ Rows.prefixBackSpec.plain.varTypes Try.prog) (ds ++ gs)).all (· ≤ reachBytes) = true := hsz0
  have hval : ∀ (j : Nat) t v, Try.f4.params[j]? = some t → args[j]? = some v → Value.okWide Try.prog W .any base t v := hval0
  have hW' := hW
  obtain ⟨p, q, hA0, hV, rfl, hfz, hnd⟩ := hW
  have hA : DataW.TrodAll enc Try.prog W 0 (fun _ => true) true Try.f4.params.toList args.toList ds p := hA0
  rw [Try.params4] at hA hval hsz
  obtain ⟨v0, vs0, d0, ds0, p0, q0, hargs, rfl, rfl, h0, r0⟩ := trodAll_cons hA
  obtain ⟨v1, vs1, d1, ds1, p1, q1, rfl, rfl, rfl, h1, r1⟩ := trodAll_cons r0
  obtain ⟨v2, vs2, d2, ds2, p2, q2, rfl, rfl, rfl, h2, r2⟩ := trodAll_cons r1
  obtain ⟨rfl, rfl, rfl⟩ := trodAll_nil r2
  obtain rfl : args = #[v0, v1, v2] := by cases args; simp_all
  obtain ⟨rfl, rfl⟩ := trodVars_none hV
  have k0 := h0
  have lt0 : ∀ x ∈ p0, x.block < W.heap.size := by obtain ⟨m, hm⟩ := k0; exact DataW.trod_lt m _ _ _ hm
  obtain ⟨cs0, y0, rfl, hK0, F0⟩ := open_agg (opens_array Try.underlying22 (by kernel_rfl) (opensL_cons (by kernel_rfl) (by kernel_rfl) (opens_int Try.underlying3) (opensL_last (by kernel_rfl) (by kernel_rfl) (opens_int Try.underlying3)))) h0 (by have z := (hval 0 22 v0 rfl rfl); simp only [Value.okWide, Try.underlying22] at z; obtain ⟨c_, e_, _⟩ := z; exact ⟨c_, e_⟩)
  obtain ⟨c0x0, c0x1, e0x, z0x0, z0x1⟩ := hK0
  obtain rfl : cs0 = #[.int .i64 y0.1, .int .i64 y0.2] := by
    apply Array.ext'
    rw [e0x, z0x0, z0x1]
    rfl
  have k1 := h1
  have lt1 : ∀ x ∈ p1, x.block < W.heap.size := by obtain ⟨m, hm⟩ := k1; exact DataW.trod_lt m _ _ _ hm
  obtain ⟨cs1, y1, rfl, hK1, F1⟩ := open_agg (opens_array Try.underlying32 (by kernel_rfl) (opensL_cons (by kernel_rfl) (by kernel_rfl) (opens_int Try.underlying5) (opensL_cons (by kernel_rfl) (by kernel_rfl) (opens_int Try.underlying5) (opensL_last (by kernel_rfl) (by kernel_rfl) (opens_int Try.underlying5))))) h1 (by have z := (hval 1 32 v1 rfl rfl); simp only [Value.okWide, Try.underlying32] at z; obtain ⟨c_, e_, _⟩ := z; exact ⟨c_, e_⟩)
  obtain ⟨c1x0, c1x1, e1x, z1x0, ⟨c1x10, c1x11, e1x1, z1x10, z1x11⟩⟩ := hK1
  obtain rfl : cs1 = #[.int .u8 y1.1, .int .u8 y1.2.1, .int .u8 y1.2.2] := by
    apply Array.ext'
    rw [e1x, e1x1, z1x0, z1x10, z1x11]
    rfl
  have k2 := h2
  have lt2 : ∀ x ∈ p2, x.block < W.heap.size := by obtain ⟨m, hm⟩ := k2; exact DataW.trod_lt m _ _ _ hm
  obtain ⟨A2, c2, l2, rfl, hc2, hC2, m2, F2⟩ := open_row Try.underlying23 (by kernel_rfl) (opens_int Try.underlying5) h2 (okWide_slice Try.underlying23 (hval 2 23 v2 rfl rfl))
  clear hA0 hval0 hsz0 hsz
  obtain ⟨k, hP⟩ := Pure.PrefixBack y0.1 y0.2 y1.1 y1.2.1 y1.2.2 l2 F0 F1 m2 F2
  refine (QP.gantletlaw03_PrefixBack.calls k y0.1 y0.2 y1.1 y1.2.1 y1.2.2 A2 c2 l2 true W hC2 hc2 hP).mono ?_
  rintro e W' ⟨rfl, bel0⟩
  have bel := bel0
  exact ⟨_, rfl, _, _, _, [], _, [], hW', trodAll_mk1 (shut_bool Try.underlying4 _), (trodAll_cons_mk (Below.trod laidOut (by kernel_rfl) (of_decide_eq_true (by kernel_rfl)) k0 bel lt0) (trodAll_cons_mk (Below.trod laidOut (by kernel_rfl) (of_decide_eq_true (by kernel_rfl)) k1 bel lt1) (trodAll_cons_mk (Below.trod laidOut (by kernel_rfl) (of_decide_eq_true (by kernel_rfl)) k2 bel lt2) trodAll_mk0))), rfl, bel.frame _, fun h => by cases h⟩
theorem over : Rows.prefixBackRow.holds Try.pinned (OpenSpec.ofChange Rows.prefixBackSpec) :=
  OpenClaim.holds_of_wide 4 Try.f4 rfl rfl rfl rfl rfl rfl rfl ⟨rfl, rfl, rfl, rfl, rfl⟩ rfl rfl rfl rfl rfl (by kernel_rfl) Try.func4 (by kernel_rfl)
    (of_decide_eq_true (by kernel_rfl)) (by unfold Func.isWrapper; first | (rw [if_pos (by decide +kernel)]; kernel_rfl) | (rw [if_neg (by decide +kernel)]; exact ⟨rfl, rfl⟩))
    (fun os started H enc _ => lifted os started H enc)
theorem proved : Rows.PrefixBackSaid := over
#print axioms proved
end Go.Proofs.Ytlbjhbanfpnogaa.prefixBack
namespace Go.Proofs.Ytlbjhbanfpnogaa
/-- The row, under a short name, for the claim. -/
theorem prefixBack_holds : Rows.PrefixBackSaid := prefixBack.proved
end Go.Proofs.Ytlbjhbanfpnogaa

/-
  THE ROW OF MeterPlays: for whatever arguments the law answers true and leaves them as they were.
  Condition: none.
-/
import Derived.Test.YtjkadheknjkkbaaRows
import Derived.Test.YtjkadheknjkkbaaMeterC
import Derived.Test.YtjkadheknjkkbaaPureMeterPlays
import Derived.Test.YtjkadheknjkkbaaOpen
import Derived.Test.YtjkadheknjkkbaaWSized
import Derived.WalkKit
import Derived.ProofKit
import Derived.OpenShut
import Derived.ShutString
import Derived.ChangeOld
import Derived.Below
import Derived.SizedLaws
namespace Go.Proofs.Ytjkadheknjkkbaa.meterPlays
open Go.ChangeShapes Go.WideShapes Go.ChangeAt Go.RowKit Go.Proofs.YtjkadheknjkkbaaW.PrintWords Go.Proofs.Ytjkadheknjkkbaa.Opn
open Go.ChangeMaps (open_string shut_string)
set_option linter.unusedVariables false
theorem own : ownKnob Try.prog.godebug = none := by kernel_rfl
theorem laidOut : laidOutB Try.prog = true := by kernel_rfl
set_option maxRecDepth 100000 in
set_option maxHeartbeats 1000000 in
theorem lifted (os : Os) (started : os.Started) (H : Type) (enc : TypeId × Value → H) :
    ReturnsInHanded {} Try.checked os 4 .any (Rows.meterPlaysSpec.pre6 enc Try.prog Try.f4 Rows.meterPlaysRow.domain false) (Rows.meterPlaysSpec.post enc Try.prog Try.f4 false true false false) := by
  refine returnsInHanded_of_change_sized (C := Try.checked) own started (by kernel_rfl) Try.func4
    (ChangeSpec.witness6 (enc := enc) (C := Try.checked) false ⟨#[], #[.agg #[.int .i64 0, .int .i64 0, .int .i64 0, .int .i64 0, .int .i64 0, .int .i64 0], .slice none 0 0], []⟩ 8 (by kernel_rfl) (by kernel_rfl) (by kernel_rfl) (by kernel_rfl)) ?_
  intro W base args ds gs before hval0 hW hcnd hsz0 _
  have hsz : (DataW.weightsEach Try.prog (Try.f4.params.toList ++ Rows.meterPlaysSpec.plain.varTypes Try.prog) (ds ++ gs)).all (· ≤ reachBytes) = true := hsz0
  have hval : ∀ (j : Nat) t v, Try.f4.params[j]? = some t → args[j]? = some v → Value.okWide Try.prog W .any base t v := hval0
  have hW' := hW
  obtain ⟨p, q, hA0, hV, rfl, hfz, hnd⟩ := hW
  have hA : DataW.TrodAll enc Try.prog W 0 (fun _ => true) true Try.f4.params.toList args.toList ds p := hA0
  rw [Try.params4] at hA hval hsz
  obtain ⟨v0, vs0, d0, ds0, p0, q0, hargs, rfl, rfl, h0, r0⟩ := trodAll_cons hA
  obtain ⟨v1, vs1, d1, ds1, p1, q1, rfl, rfl, rfl, h1, r1⟩ := trodAll_cons r0
  obtain ⟨rfl, rfl, rfl⟩ := trodAll_nil r1
  obtain rfl : args = #[v0, v1] := by cases args; simp_all
  obtain ⟨rfl, rfl⟩ := trodVars_none hV
  have k0 := h0
  have lt0 : ∀ x ∈ p0, x.block < W.heap.size := by obtain ⟨m, hm⟩ := k0; exact DataW.trod_lt m _ _ _ hm
  obtain ⟨cs0, y0, rfl, hK0, F0⟩ := open_agg (opens_array Try.underlying30 (by kernel_rfl) (opensL_cons (by kernel_rfl) (by kernel_rfl) (opens_int Try.underlying3) (opensL_cons (by kernel_rfl) (by kernel_rfl) (opens_int Try.underlying3) (opensL_cons (by kernel_rfl) (by kernel_rfl) (opens_int Try.underlying3) (opensL_cons (by kernel_rfl) (by kernel_rfl) (opens_int Try.underlying3) (opensL_cons (by kernel_rfl) (by kernel_rfl) (opens_int Try.underlying3) (opensL_last (by kernel_rfl) (by kernel_rfl) (opens_int Try.underlying3)))))))) h0 (by have z := (hval 0 30 v0 rfl rfl); simp only [Value.okWide, Try.underlying30] at z; obtain ⟨c_, e_, _⟩ := z; exact ⟨c_, e_⟩)
  obtain ⟨c0x0, c0x1, e0x, z0x0, ⟨c0x10, c0x11, e0x1, z0x10, ⟨c0x110, c0x111, e0x11, z0x110, ⟨c0x1110, c0x1111, e0x111, z0x1110, ⟨c0x11110, c0x11111, e0x1111, z0x11110, z0x11111⟩⟩⟩⟩⟩ := hK0
  obtain rfl : cs0 = #[.int .i64 y0.1, .int .i64 y0.2.1, .int .i64 y0.2.2.1, .int .i64 y0.2.2.2.1, .int .i64 y0.2.2.2.2.1, .int .i64 y0.2.2.2.2.2] := by
    apply Array.ext'
    rw [e0x, e0x1, e0x11, e0x111, e0x1111, z0x0, z0x10, z0x110, z0x1110, z0x11110, z0x11111]
    rfl
  have k1 := h1
  have lt1 : ∀ x ∈ p1, x.block < W.heap.size := by obtain ⟨m, hm⟩ := k1; exact DataW.trod_lt m _ _ _ hm
  obtain ⟨A1, c1, l1, rfl, hc1, hC1, m1, F1⟩ := open_row Try.underlying31 (by kernel_rfl) (opens_iso (f := fun x : QR.S40 => (x.f0, x.f1)) (fun p => ⟨p.1, p.2⟩) (fun _ => rfl) (opens_struct Try.underlying40 (by kernel_rfl) (opensL_cons (by kernel_rfl) (by kernel_rfl) (opens_int Try.underlying5) (opensL_last (by kernel_rfl) (by kernel_rfl) (opens_int Try.underlying3))))) h1 (okWide_slice Try.underlying31 (hval 1 31 v1 rfl rfl))
  clear hA0 hval0 hsz0 hsz
  have hP := Pure.MeterPlays y0.1 y0.2.1 y0.2.2.1 y0.2.2.2.1 y0.2.2.2.2.1 y0.2.2.2.2.2 l1 F0 m1 F1
  refine (QR.gantletlaw18_MeterPlays.calls y0.1 y0.2.1 y0.2.2.1 y0.2.2.2.1 y0.2.2.2.2.1 y0.2.2.2.2.2 A1 c1 l1 true W hC1 hc1 hP).mono ?_
  rintro e W' ⟨rfl, bel0⟩
  have bel := bel0
  exact ⟨_, rfl, _, _, _, [], _, [], hW', trodAll_mk1 (shut_bool Try.underlying4 _), (trodAll_cons_mk (Below.trod laidOut (by kernel_rfl) (of_decide_eq_true (by kernel_rfl)) k0 bel lt0) (trodAll_cons_mk (Below.trod laidOut (by kernel_rfl) (of_decide_eq_true (by kernel_rfl)) k1 bel lt1) trodAll_mk0)), rfl, bel.frame _, fun h => by cases h⟩
theorem over : Rows.meterPlaysRow.holds Try.pinned (OpenSpec.ofChange Rows.meterPlaysSpec) :=
  OpenClaim.holds_of_wide 4 Try.f4 rfl rfl rfl rfl rfl rfl rfl ⟨rfl, rfl, rfl, rfl, rfl⟩ rfl rfl rfl rfl rfl (by kernel_rfl) Try.func4 (by kernel_rfl)
    (of_decide_eq_true (by kernel_rfl)) (by unfold Func.isWrapper; first | (rw [if_pos (by decide +kernel)]; kernel_rfl) | (rw [if_neg (by decide +kernel)]; exact ⟨rfl, rfl⟩))
    (fun os started H enc _ => lifted os started H enc)
theorem proved : Rows.MeterPlaysSaid := over
#print axioms proved
end Go.Proofs.Ytjkadheknjkkbaa.meterPlays
namespace Go.Proofs.Ytjkadheknjkkbaa
/-- The row, under a short name, for the claim. -/
theorem meterPlays_holds : Rows.MeterPlaysSaid := meterPlays.proved
end Go.Proofs.Ytjkadheknjkkbaa

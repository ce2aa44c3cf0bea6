/-
  THE LAW WireTells: for any number and size and any bytes, Put, Get and Cut of package wire answer as the reference does.
  Conditions: none but the row's own.
-/
import Derived.Test.YtbmnplojpeabmaaPureWire
namespace Go.Proofs.Ytbmnplojpeabmaa.Pure
open Go Go.RowKit Go.Proofs.Ytbmnplojpeabmaa.QW Go.Proofs.Ytbmnplojpeabmaa.WirePure Go.Proofs.YtbmnplojpeabmaaW.PrintWords Go.Proofs.YtbmnplojpeabmaaW.PrintLast
theorem alive01 {k : Nat} (hk : 50 ≤ k) : gantletlaw01_alive.f k = some true :=
  at_rounds gantletlaw01_alive.mono hk (show gantletlaw01_alive.f 50 = some true by kernel_rfl)
theorem WireTells (n size : Int) (l : List Int) (hn : (Lit.int .i64 n).wf = true) (hs : (Lit.int .i64 size).wf = true) (hm : l.length ≤ maxLen) (hw : ∀ x ∈ l, (Lit.int .u8 x).wf = true) : ∃ k, gantletlaw01_WireTells.f k n size l = some true := by

  have hn := bounds_i64 hn
  have hs := bounds_i64 hs
  have hw := wf_bytes hw
  refine ⟨400, ?_⟩
  unfold gantletlaw01_WireTells.f
  by_cases hl : (l.length : Int) > 300
  · rw [if_pos hl, alive01 (by decide)]; rfl
  · have hbe : (if fits n size then (be size.toNat n, (0 : Int)) else ([], 1)).1.length ≤ 4 := by
      by_cases h : fits n size
      · rw [if_pos h, be_length]; have := h.2.1; omega
      · rw [if_neg h]; simp
    rw [if_neg hl, putE (by decide) n size hn, rputE (by decide) n size hn]
    simp only [Option.bind_some]
    rw [same_eq 400 _ _ (by omega) (by omega), getE (by decide) l hw, rgetE (by decide) l hw]
    simp only [Option.bind_some, decide_true, if_true, bne_self_eq_false]
    simp only [gantletlaw01_WireTells.j0]
    rw [if_neg (by decide), cutE (by decide) l size hw (by omega)]
    simp only [Option.bind_some]
    by_cases h1 : 1 ≤ size ∧ size ≤ 4
    · rw [if_neg (show ¬ size < 1 by omega), show decide (size > 4) = false from decide_eq_false (by omega), if_pos h1]
      simp only [gantletlaw01_WireTells.j1]
      rw [if_neg (by decide)]
      by_cases h2 : (l.length : Int) < size
      · rw [if_pos h2, alive01 (by decide), if_pos h2]; simp
      · rw [if_neg h2, if_neg h2, if_pos (by omega), if_pos (by omega), rgetE (by decide) _ (hw.take _), if_pos (by rw [List.length_take]; omega)]
        simp only [Option.bind_some]
        rw [same_eq 398 _ _ (by rw [List.length_drop]; omega) (by rw [List.length_drop]; omega), alive01 (by decide)]
        simp
    · rw [if_neg h1]
      have hj : ∀ b, b = true → gantletlaw01_WireTells.j1 399 size l 0 [] 1 b = some true := by
        rintro _ rfl
        simp only [gantletlaw01_WireTells.j1, if_true]
        rw [alive01 (by decide)]; simp
      by_cases h2 : size < 1
      · rw [if_pos h2]; exact hj _ rfl
      · rw [if_neg h2]; exact hj _ (decide_eq_true (by omega))
end Go.Proofs.Ytbmnplojpeabmaa.Pure

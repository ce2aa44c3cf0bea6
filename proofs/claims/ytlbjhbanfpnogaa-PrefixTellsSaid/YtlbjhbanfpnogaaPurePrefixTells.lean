/-
  THE LAW PrefixTells: for any number, prefix, what is above it, and any bytes, Encode and Decode of package prefix answer as the reference does.
  Conditions: none but the row's own.
-/
import Derived.Test.YtlbjhbanfpnogaaPurePrefix
namespace Go.Proofs.Ytlbjhbanfpnogaa.Pure
open Go Go.RowKit Go.Proofs.Ytlbjhbanfpnogaa.QP Go.Proofs.Ytlbjhbanfpnogaa.PrefixPure Go.Proofs.YtlbjhbanfpnogaaW.PrintWords Go.Proofs.YtlbjhbanfpnogaaW.PrintLast
set_option linter.unusedVariables false
theorem alive03 {k : Nat} (hk : 60 ≤ k) : gantletlaw03_alive.f k = some true :=
  at_rounds gantletlaw03_alive.mono hk (show gantletlaw03_alive.f 60 = some true by kernel_rfl)
theorem PrefixTells (n b a : Int) (l : List Int) (hn : (Lit.int .i64 n).wf = true) (hF : (Lit.int .i64 b).wf = true ∧ (Lit.int .i64 a).wf = true) (hm : l.length ≤ maxLen) (hw : ∀ x ∈ l, (Lit.int .u8 x).wf = true) :
    ∃ k, gantletlaw03_PrefixTells.f k n b a l = some true := by
  have hw := wf_bytes hw
  refine ⟨400, ?_⟩
  unfold gantletlaw03_PrefixTells.f
  by_cases hl : (l.length : Int) > 300
  · rw [if_pos hl, alive03 (by decide)]; rfl
  · have hbe : (if ok n b a then (enc n b a, (0 : Int)) else ([], 1)).1.length ≤ 6 := by
      by_cases h : ok n b a
      · rw [if_pos h]; exact (enc_length n b a).2
      · rw [if_neg h]; simp
    rw [if_neg hl, encE (by decide), rencE (by decide)]
    simp only [Option.bind_some]
    rw [sameE _ _ (by omega) (by omega), decE (by decide) l hw, rdecE (by decide) l hw, alive03 (by decide)]
    simp
end Go.Proofs.Ytlbjhbanfpnogaa.Pure

/-
  HUFF: codes that begin with others.
  Conditions: none of its own; lemmas that the claim's row rests on.
-/
import Derived.Test.YtlbjhbanfpnogaaDoorHg1
import Derived.WalkKit
namespace Go.Proofs.YtlbjhbanfpnogaaDoor.QH
open Go.RowKit Go.Proofs.YtlbjhbanfpnogaaDoorW.PrintWords Go.Proofs.YtlbjhbanfpnogaaDoorW.PrintLast Go.Proofs.YtlbjhbanfpnogaaDoorW.PrintMore
attribute [local go_sem] max2_int min2_int max_two min_two max_three min_three max_four min_four
set_option linter.unusedVariables false
set_option linter.unusedSimpArgs false
/-- Of two codes, the shorter one is less than the longer one's first bits; of one length they are one just if the bytes are. -/
theorem code_same {p q : Nat} (hp : p < 257) (hq : q < 257) (h : ln p = ln q) (e : cd p = cd q) : p = q := by
  have h1 := findC_own p hp
  have h2 := findC_own q hq
  rw [h, e, h2] at h1
  exact (Option.some.inj h1).symm
theorem code_less {p q : Nat} (hp : p < 257) (hq : q < 257) (h : ln p < ln q) : cd p < cd q / 2 ^ (ln q - ln p) := by
  obtain ⟨d, hd⟩ : ∃ d, ln q = ln p + (d + 1) := ⟨ln q - ln p - 1, by omega⟩
  have hl := ln_le q hq
  have h1 := cd_nx q hq
  have h2 : nxN (ln q) 0 ≤ nxN (ln q) q := Nat.add_le_add_left (cnt_mono lensN (ln q) 0 q (by omega)) _
  have h3 := pre_le d (ln p) (cd q) (by omega) (by rw [← hd]; omega)
  have h4 := cd_nx p hp
  have h5 := nx_step (ln p) p hp
  rw [if_pos rfl] at h5
  have h6 := nx_mono (ln p) (p + 1) (by omega)
  rw [show ln q - ln p = d + 1 by omega]
  omega
end Go.Proofs.YtlbjhbanfpnogaaDoor.QH

/-
  THE LAW LiteralTells: for any text, and any bytes, Encode, Short and Decode of package literal answer as the reference does.
  Conditions: none but the row's own.
-/
import Derived.Test.YtlbjhbanfpnogaaDoorPureLit
namespace Go.Proofs.YtlbjhbanfpnogaaDoor.Pure
open Go Go.RowKit Go.Proofs.YtlbjhbanfpnogaaDoor.QH Go.Proofs.YtlbjhbanfpnogaaDoor.QI Go.Proofs.YtlbjhbanfpnogaaDoor.PrefixPure Go.Proofs.YtlbjhbanfpnogaaDoorW.PrintWords Go.Proofs.YtlbjhbanfpnogaaDoorW.PrintLast
set_option linter.unusedVariables false
theorem alive05 {k : Nat} (hk : 60 ≤ k) : gantletlaw05_alive.f k = some true :=
  at_rounds gantletlaw05_alive.mono hk (show gantletlaw05_alive.f 60 = some true by decide +kernel)
theorem tells05 (k : Nat) (hk : 20000 ≤ k) (s : ByteArray) (l : List Int) (most : Int) (hs : s.size ≤ 300) (hl : l.length ≤ 300) (hb : Bytes l) : gantletlaw05_LiteralTells.j0 (k + 1) s l most false = some true := by
  have h1 := own_len (decide ((l.length : Int) % 2 = 1)) s (by omega)
  have h2 := lit_len (decide ((l.length : Int) % 2 = 1)) s
  have h3 := own_len (shq s) s (by omega)
  have h4 := lit_len (shq s) s
  have e : (((l.length : Int) % 2) == 1) = decide ((l.length : Int) % 2 = 1) := by by_cases h : (l.length : Int) % 2 = 1 <;> simp [h]
  rw [gantletlaw05_LiteralTells.j0, if_neg (by decide), e, litE (by omega) _ s (by omega), rlitE _ s (by omega) (by omega)]
  simp only [Option.bind_some]
  rw [same01_self _ (by omega) (by omega), shortE (by omega) s (by omega), rshortE s (by omega) (by omega)]
  simp only [Option.bind_some]
  rw [same01_self _ (by omega) (by omega), litDE (by omega) l most hb (by omega), rlitDE l most hb (by omega) (by omega), alive05 (by omega)]
  simp
theorem LiteralTells (a0 : ByteArray) (l1 : List Int) (a2 : Int) (w0 : a0.size ≤ 140737488351232) (m1 : l1.length ≤ maxLen) (hw : ∀ x ∈ l1, (Lit.int .u8 x).wf = true) (w2 : (Lit.int .i64 a2).wf = true) :
    ∃ k, gantletlaw05_LiteralTells.f k a0 l1 a2 = some true := by
  have hb := wf_bytes hw
  obtain ⟨k, hk⟩ : ∃ k, 20000 ≤ k := ⟨20000, Nat.le_refl _⟩
  have out : gantletlaw05_LiteralTells.j0 (k + 1) a0 l1 a2 true = some true := by rw [gantletlaw05_LiteralTells.j0, if_pos rfl, alive05 (by omega)]; rfl
  refine ⟨k + 1, ?_⟩
  unfold gantletlaw05_LiteralTells.f
  by_cases hs : (a0.size : Int) > 300
  · rw [if_pos hs]; exact out
  · rw [if_neg hs]
    by_cases hl : (l1.length : Int) > 300
    · rw [decide_eq_true hl]; exact out
    · rw [decide_eq_false hl]
      exact tells05 k hk a0 l1 a2 (by omega) (by omega) hb
end Go.Proofs.YtlbjhbanfpnogaaDoor.Pure

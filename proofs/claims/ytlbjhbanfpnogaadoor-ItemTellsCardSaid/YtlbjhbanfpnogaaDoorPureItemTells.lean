/-
  THE LAW ItemTells: for any item, and any bytes, Right, Encode and Decode of package item answer as the reference does.
  Conditions: none but the row's own.
-/
import Derived.Test.YtlbjhbanfpnogaaDoorPureItemR
import Derived.Test.YtlbjhbanfpnogaaDoorIt
namespace Go.Proofs.YtlbjhbanfpnogaaDoor.Pure
open Go Go.RowKit Go.Proofs.YtlbjhbanfpnogaaDoor.QH Go.Proofs.YtlbjhbanfpnogaaDoor.QI Go.Proofs.YtlbjhbanfpnogaaDoor.QJ Go.Proofs.YtlbjhbanfpnogaaDoor.PrefixPure Go.Proofs.YtlbjhbanfpnogaaDoorW.PrintWords Go.Proofs.YtlbjhbanfpnogaaDoorW.PrintLast
set_option linter.unusedVariables false
theorem itemE_len {x0 x1 : Int} {s2 s3 : ByteArray} (h2 : s2.size ≤ 300) (h3 : s3.size ≤ 300) : (itemE x0 x1 s2 s3).length ≤ 3000 := by
  have hl := enc_length x1 (shB x0.toNat : Int) (shA x0.toNat : Int)
  have l2 := lit_len2 (shq s2) s2 (by omega)
  have l3 := lit_len2 (shq s3) s3 (by omega)
  unfold itemE
  split
  · split
    · rw [List.length_append, List.length_append]; omega
    · rw [List.length_append]; omega
  · omega
theorem tells_ok (k : Nat) (hk : 30000 ≤ k) (x0 x1 : Int) (s2 s3 : ByteArray) (l : List Int) (most : Int) (hb : Bytes l) : TellsOk k x0 x1 s2 s3 l most := by
  refine ⟨rfl, fun h2 h3 hl => ?_⟩
  obtain ⟨⟨y0, y1, t2, t3, yq, ye⟩, hy⟩ : ∃ x, itemD l most = x := ⟨_, rfl⟩
  obtain ⟨⟨c, ce⟩, hce⟩ : ∃ x, (if rightB x0 x1 s2 s3 = true then (itemE x0 x1 s2 s3, (0 : Int)) else ([], 1)) = x := ⟨_, rfl⟩
  have hlen : c.length ≤ 3000 := by
    have : (if rightB x0 x1 s2 s3 = true then (itemE x0 x1 s2 s3, (0 : Int)) else ([], 1)).1.length ≤ 3000 := by
      split
      · exact itemE_len h2 h3
      · simp
    rw [hce] at this
    exact this
  exact ⟨y0, y1, t2, t3, yq, ye, c, ce, rightB x0 x1 s2 s3, by rw [itemDE (by omega) hb (by omega), hy], by rw [ritemDE hb (by omega) (by omega), hy], by rw [itemEE (by omega), hce], by rw [ritemEE _ _ _ _ (by omega), hce], same01_self _ (by omega) (by omega), rightE (by omega) _ _ _ _, rrightE (by omega) _ _ _ _⟩
theorem ItemTells (a0 a1 : Int) (s2 s3 : ByteArray) (l1 : List Int) (a2 : Int) (w0 : (Lit.int .i64 a0).wf = true ∧ (Lit.int .i64 a1).wf = true ∧ s2.size ≤ maxLen ∧ s3.size ≤ maxLen) (m1 : l1.length ≤ maxLen) (hw : ∀ x ∈ l1, (Lit.int .u8 x).wf = true) (w2 : (Lit.int .i64 a2).wf = true) :
    ∃ k, gantletlaw08_ItemTells.f k a0 a1 s2 s3 l1 a2 = some true := by
  have hb := wf_bytes hw
  obtain ⟨k, hk⟩ : ∃ k, 30000 ≤ k := ⟨30000, Nat.le_refl _⟩
  refine ⟨k, ?_⟩
  unfold gantletlaw08_ItemTells.f
  rw [if_pos (tells_ok k hk a0 a1 s2 s3 l1 a2 hb)]
end Go.Proofs.YtlbjhbanfpnogaaDoor.Pure

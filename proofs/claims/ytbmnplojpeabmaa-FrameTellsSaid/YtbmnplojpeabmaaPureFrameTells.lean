/-
  THE LAW FrameTells: whether any frame may be, its bytes, the frame that any bytes begin with, all frames that they are, and sameness are as the reference says.
  Conditions: none but the row's own.
-/
import Derived.Test.YtbmnplojpeabmaaPureFrame
namespace Go.Proofs.Ytbmnplojpeabmaa.Pure
open Go Go.RowKit Go.Proofs.Ytbmnplojpeabmaa.QF Go.Proofs.Ytbmnplojpeabmaa.WirePure Go.Proofs.Ytbmnplojpeabmaa.FramePure Go.Proofs.YtbmnplojpeabmaaW.PrintWords Go.Proofs.YtbmnplojpeabmaaW.PrintLast
set_option linter.unusedVariables false
theorem FrameTells (a b c : Int) (l : List Int) (d e f : Int) (m : List Int) (s : List Int) (most : Int)
    (hF : ((Lit.int .i64 a).wf = true ∧ (Lit.int .i64 b).wf = true ∧ (Lit.int .i64 c).wf = true ∧ l.length ≤ maxLen ∧ ∀ x ∈ l, (Lit.int .u8 x).wf = true) ∧ (Lit.int .i64 d).wf = true ∧ (Lit.int .i64 e).wf = true ∧ (Lit.int .i64 f).wf = true ∧ m.length ≤ maxLen ∧ ∀ x ∈ m, (Lit.int .u8 x).wf = true)
    (hm : s.length ≤ maxLen) (hs : ∀ x ∈ s, (Lit.int .u8 x).wf = true) (hw : (Lit.int .i64 most).wf = true) :
    ∃ k, gantletlaw02_FrameTells.f k a b c l d e f m s most = some true := by
  have hl := wf_bytes hF.1.2.2.2.2
  have hm' := wf_bytes hF.2.2.2.2.2
  have hs := wf_bytes hs
  clear hF hm hw
  have no : ∀ k, 60 ≤ k → gantletlaw02_FrameTells.j0 (k + 1) s most true a b c l d e f m = some true := fun k hk => by
    have e : gantletlaw02_FrameTells.j0 (k + 1) s most true a b c l d e f m = (gantletlaw02_alive.f k).bind fun t => some t := rfl
    rw [e, alive02 hk]
    rfl
  refine ⟨9999 + 1, ?_⟩
  unfold gantletlaw02_FrameTells.f
  by_cases h1 : (s.length : Int) > 2000
  · rw [if_pos h1, no _ (by decide)]
  rw [if_neg h1]
  by_cases h2 : (l.length : Int) > 2000
  · rw [if_pos h2, no _ (by decide)]
  rw [if_neg h2]
  by_cases h3 : (m.length : Int) > 2000
  · rw [decide_eq_true h3, no _ (by decide)]
  rw [decide_eq_false h3]
  have j2 : gantletlaw02_FrameTells.j2 (9996 + 1) s most false = some true := by
    obtain ⟨r, r1, r2, r3, r4⟩ := all_eq s most hs (by omega) s.length 9996 [] 0 (by omega) (by omega) (by omega) (by omega) (by simp; omega) (by simp)
    show (if false = true then none else ((frame_All.f 9996 s most).bind fun bt318 => ((gantletref02_All.f 9996 s most).bind fun bt323 => ((gantletref02_List.f 9996 bt318.1 bt323.1).bind fun t328 => ((gantletlaw02_alive.f 9996).bind fun t329 => (if t329 = true then (if t328 = true then (if bt318.2.1 = bt323.2.1 then (if bt318.2.2 = bt323.2.2 then (some true) else (none)) else (none)) else (none)) else (none))))))) = some true
    rw [if_neg (by decide), show frame_All.f 9996 s most = some r from r1, show gantletref02_All.f 9996 s most = some r from r2]
    simp only [Option.bind_some]
    simp only [List.length_nil] at r3
    rw [listE r4 (by omega) (by omega) (by omega), alive02 (by decide)]
    simp
  have j1 : gantletlaw02_FrameTells.j1 (9997 + 1) s most false = some true := by
    show (if false = true then none else ((frame_Next.f 9997 s most).bind fun bt299 => ((gantletref02_Next.f s most).bind fun bt308 => ((gantletref02_Same.f 9997 bt299.1 bt299.2.1 bt299.2.2.1 bt299.2.2.2.1 bt308.1 bt308.2.1 bt308.2.2.1 bt308.2.2.2.1).bind fun t317 => (if t317 = true then (if bt299.2.2.2.2.1 = bt308.2.2.2.2.1 then (gantletlaw02_FrameTells.j2 9997 s most (bt299.2.2.2.2.2 != bt308.2.2.2.2.2)) else (gantletlaw02_FrameTells.j2 9997 s most true)) else (gantletlaw02_FrameTells.j2 9997 s most true)))))) = some true
    rw [if_neg (by decide), nextE (by decide) s most hs (by omega), rnextE s most hs (by omega)]
    simp only [Option.bind_some]
    have hlen : (nx s most).2.2.2.1.length ≤ 2000 := by
      unfold nx
      repeat' split
      all_goals simp
      omega
    rw [rsameE (by omega) (by omega)]
    simp only [Option.bind_some, and_self, decide_true, if_true, bne_self_eq_false]
    exact j2
  show (if false = true then ((gantletlaw02_alive.f 9999).bind fun t285 => (some t285)) else ((frame_Encode.f 9999 a b c l).bind fun bt286 => ((gantletref02_Encode.f 9999 a b c l).bind fun bt290 => ((gantletref01_Same.f 9999 bt286.1 bt290.1).bind fun t294 => (if t294 = true then (if bt286.2 = bt290.2 then ((frame_Right.f a b c l).bind fun t295 => ((gantletref02_Right.f a b c l).bind fun t296 => (if (t295 != t296) = true then (gantletlaw02_FrameTells.j1 9999 s most true) else ((frame_Same.f a b c l d e f m).bind fun t297 => ((gantletref02_Same.f 9999 a b c l d e f m).bind fun t298 => (gantletlaw02_FrameTells.j1 9999 s most (t297 != t298))))))) else (gantletlaw02_FrameTells.j1 9999 s most true)) else (gantletlaw02_FrameTells.j1 9999 s most true)))))) = some true
  have hj1 : gantletlaw02_FrameTells.j1 9999 s most false = some true := at_rounds (fun k => (gantletlaw02_FrameTells.mono_l k).2.1 s most false) (show 9998 ≤ 9999 by decide) j1
  rw [if_neg (by decide)]
  have tail : ∀ x : List Int × Int, x.1.length ≤ 3000 → ((gantletref01_Same.f 9999 x.1 x.1).bind fun t294 => (if t294 = true then (if x.2 = x.2 then ((frame_Right.f a b c l).bind fun t295 => ((gantletref02_Right.f a b c l).bind fun t296 => (if (t295 != t296) = true then (gantletlaw02_FrameTells.j1 9999 s most true) else ((frame_Same.f a b c l d e f m).bind fun t297 => ((gantletref02_Same.f 9999 a b c l d e f m).bind fun t298 => (gantletlaw02_FrameTells.j1 9999 s most (t297 != t298))))))) else (gantletlaw02_FrameTells.j1 9999 s most true)) else (gantletlaw02_FrameTells.j1 9999 s most true))) = some true := fun x hx => by
    rw [same_eq _ _ _ (by omega) (by omega), right_eq, rright_eq, fsameE hl hm', rsameE (by omega) (by omega)]
    simp only [Option.bind_some, decide_true, if_true, bne_self_eq_false, Bool.false_eq_true, if_false]
    exact hj1
  by_cases hr : right a b c l
  · rw [encE (by decide) hr, rencE (by decide) hr]
    exact tail (enc a b c l, 0) (by rw [enc_length]; omega)
  · rw [encN hr, rencN hr]
    exact tail ([], 1) (by simp)
end Go.Proofs.Ytbmnplojpeabmaa.Pure

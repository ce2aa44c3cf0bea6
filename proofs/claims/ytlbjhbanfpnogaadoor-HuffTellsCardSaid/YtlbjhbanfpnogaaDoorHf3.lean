/-
  HUFF: texts.
  Conditions: none of its own; lemmas that the claim's row rests on.
-/
import Derived.Test.YtlbjhbanfpnogaaDoorHf1
import Derived.WalkKit
import Derived.Maps.OwnSet
import Derived.Maps.OwnIn
import Derived.DeepKeys4
import Derived.Maps.Views
namespace Go.Proofs.YtlbjhbanfpnogaaDoor.QH
open Go.RowKit Go.Proofs.YtlbjhbanfpnogaaDoorW.PrintWords Go.Proofs.YtlbjhbanfpnogaaDoorW.PrintLast Go.Proofs.YtlbjhbanfpnogaaDoorW.PrintMore
attribute [local go_sem] max2_int min2_int max_two min_two max_three min_three max_four min_four
set_option linter.unusedVariables false
set_option linter.unusedSimpArgs false
open Go.Maps
theorem laidOut' : laidOutB Tryd.prog = true := by kernel_rfl
theorem row65 : (65 : TypeId) < Tryd.prog.types.size := of_decide_eq_true (by kernel_rfl)
theorem wide65 : (match Tryd.prog.underlying 65 with | some (.array _ _) | some (.struct _) => true | _ => false) = true := by rw [Tryd.underlying65]
theorem law65 : Keyed Tryd.prog 65 := Keyed.of_law (deep_law_laid laidOut' (m := 2) (by omega) row65 (by kernel_rfl) wide65)
theorem kt65 : Tryd.prog.keyType 65 = true := by kernel_rfl
theorem cells65 : Tryd.prog.cellsOf 65 = 2 := by kernel_rfl
theorem cells3 : Tryd.prog.cellsOf 3 = 1 := by kernel_rfl
theorem tsz : ∃ m, Tryd.prog.types.size = m + 1 := ⟨Tryd.prog.types.size - 1, (Nat.sub_add_cancel (Nat.le_of_lt (Nat.lt_of_le_of_lt (show 1 ≤ 65 by decide) row65))).symm⟩
/-- A code's key, as it is told. -/
def kl (a n : Int) : Lit := .string (keyBytes [.int .i64 a, .int .i64 n])
theorem kl_key {a n : Int} (ha : (Lit.int .i64 a).wf = true) (hn : (Lit.int .i64 n).wf = true) : keyOf Tryd.prog 65 (.agg #[.int .i64 a, .int .i64 n]) = some (kl a n) := by
  obtain ⟨m, hm⟩ := tsz
  have hf : (Value.agg #[.int .i64 a, .int .i64 n]).formed Tryd.prog 65 = true := by simp [Value.formed, Tryd.underlying65, cells65]
  unfold keyOf
  rw [Tryd.underlying65]
  simp only [kt65, hf, Bool.and_self, if_true]
  rw [hm]
  have h3 := Tryd.underlying3
  simp [Program.keyLits, Tryd.underlying65, h3, cells65, cells3, Value.cells, ha, hn, kl]
theorem kl_inj {a n a' n' : Int} (ha : (Lit.int .i64 a).wf = true) (hn : (Lit.int .i64 n).wf = true) (ha' : (Lit.int .i64 a').wf = true) (hn' : (Lit.int .i64 n').wf = true) (h : kl a n = kl a' n') : a = a' ∧ n = n' := by
  have h1 := kl_key ha hn
  have h2 := kl_key ha' hn'
  rw [h] at h1
  have h3 := law65.inj h1 h2
  simp only [Value.agg.injEq, Array.mk.injEq, List.cons.injEq, Value.int.injEq, true_and, and_true] at h3
  exact h3
theorem wf_small {x : Int} (h0 : 0 ≤ x) (h1 : x ≤ 4611686018427387904) : (Lit.int .i64 x).wf = true := WalkArith.wf_i64 (by omega)
/-- The map of the codes of the first c bytes. -/
def mapD : Nat → DataW Unit
  | 0 => .map []
  | c + 1 => (mapD c).put (kl (cd c) (ln c)) (.lit (.int .i64 (c : Int)))
def findC : Nat → Nat → Nat → Option Nat
  | 0, _, _ => none
  | c + 1, a, n => if cd c = a ∧ ln c = n then some c else findC c a n
theorem cd_small (c : Nat) (h : c < 257) : cd c ≤ 1073741824 := by
  have h1 := cd_lt c h
  have h2 := ln_le c h
  have h3 : 2 ^ ln c ≤ 2 ^ 30 := Nat.pow_le_pow_right (by decide) h2.2
  omega
theorem wf_cd (c : Nat) (h : c < 257) : (Lit.int .i64 (cd c : Int)).wf = true := wf_small (by omega) (by have := cd_small c h; omega)
theorem wf_ln (c : Nat) (h : c < 257) : (Lit.int .i64 (ln c : Int)).wf = true := wf_small (by omega) (by have := ln_le c h; omega)
theorem kl_lit (a n : Int) : WideAt.IsKeyLit (kl a n) := trivial
theorem mapD_isMap : ∀ c, IsMap (mapD c)
  | 0 => isMap_empty
  | c + 1 => (mapD_isMap c).put _ _
theorem mapD_find (a n : Nat) (ha : (Lit.int .i64 (a : Int)).wf = true) (hn : (Lit.int .i64 (n : Int)).wf = true) : ∀ c, c ≤ 257 → Maps.has (mapD c) (kl a n) = (findC c a n).isSome ∧ (mapD c).atKey (kl a n) (.lit (.int .i64 0)) = .lit (.int .i64 (((findC c a n).getD 0 : Nat) : Int))
  | 0, _ => ⟨rfl, rfl⟩
  | c + 1, hc => by
    obtain ⟨h1, h2⟩ := mapD_find a n ha hn c (by omega)
    unfold mapD findC
    by_cases h : cd c = a ∧ ln c = n
    · rw [if_pos h, h.1, h.2]
      exact ⟨has_put_same (mapD_isMap c) (kl_lit _ _) _, by rw [atKey_put_same (mapD_isMap c) (kl_lit _ _)]; rfl⟩
    · rw [if_neg h]
      have hne : kl a n ≠ kl (cd c) (ln c) := fun e => h (by
        have h3 := kl_inj ha hn (wf_cd c (by omega)) (wf_ln c (by omega)) e
        omega)
      exact ⟨(has_put_other hne _).trans h1, (atKey_put_other hne _ _).trans h2⟩
set_option maxHeartbeats 4000000 in
set_option maxRecDepth 100000 in
theorem huff_texts.is (w : World) (hG : GB w) : Calls Tryd.prog 41 #[] w fun e w' => ∃ b, e = .returned (.map (some b)) ∧ w'.ownsMap Tryd.prog 65 (plainElem (H := Unit) Tryd.prog 3) b 257 (mapD 257) ∧ w.heap.size ≤ b ∧ Below w.heap.size w w' := by
  have HG := Aside0.mk hG
  clear hG
  have hmm := @run_makeMap Tryd.prog
  have hu57 := Tryd.underlying57
  go_enter Tryd.func41, Tryd.ntmps41
  go_wp2_with (go_at_call 38; refine (huff_codes.is _ (HG.out.alloc _)).mono ?_; rintro e_ w1 ⟨rfl, hb1⟩; have HB1 := Aside0.mk (below_step (below_alloc (Below.refl w.heap.size w) _) hb1); have HO1 : Aside0 (w1.ownsMap Tryd.prog 65 (plainElem (H := Unit) Tryd.prog 3) w.heap.size 0 (mapD 0)) := ⟨(World.ownsMap_made w _ _ _).kept (grown_of_below hb1 none) (by simp)⟩; clear hb1)
  go_loopg [6] 258 (fun kq v6 w' => ∃ c : Nat, v6 = .int .i64 (c : Int) ∧ Aside0 (c + kq = 258 ∧ c ≤ 257) ∧ Aside0 (Below w.heap.size w w') ∧ Aside0 (w'.ownsMap Tryd.prog 65 (plainElem (H := Unit) Tryd.prog 3) w.heap.size c (mapD c)))
  case atStart => exact ⟨0, rfl, ⟨by omega⟩, HB1, HO1⟩
  case round =>
    clear HB1 HO1
    obtain ⟨c, rfl, HC, HB, HO⟩ := hrel
    by_cases cc : c < 257
    · have ccb : decide ((c : Int) < 257) = true := decide_eq_true (by omega)
      obtain ⟨k2, hk2⟩ : ∃ j, gk = j + 1 := ⟨gk - 1, by have := HC.out; omega⟩
      subst hk2
      have hix : ∀ W, (Instr.index 57 (.agg codesV) (.int .i64 (c : Int))).run Tryd.prog W = .ok (.int .i64 (cd c : Int)) W := fun W => index_arr W codesV _ c .i64 (by omega) (by omega) (by rw [Int.toNat_natCast]; exact codesV_get c cc)
      have hg0 := (HG.out.below HB.out).cell c cc
      have hkk := kl_key (wf_cd c cc) (wf_ln c cc)
      have HMD : Aside0 ((mapD c).put (kl (cd c) (ln c)) (.lit (.int .i64 (c : Int))) = mapD (c + 1)) := ⟨rfl⟩
      have hw1 : wrap64 ((c : Int) + 1) = (c : Int) + 1 := by unfold wrap64; omega
      have HW1 := Aside0.mk hw1
      have hc0 : (0 : Int) ≤ (c : Int) := by omega
      have HCC := Aside0.mk cc
      obtain ⟨a, ha⟩ : ∃ a, cd c = a := ⟨_, rfl⟩
      obtain ⟨n, hn⟩ : ∃ n, ln c = n := ⟨_, rfl⟩
      rw [ha] at hix hkk HMD
      rw [hn] at hg0 hkk HMD
      have HKK := Aside0.mk hkk
      clear ha hn hkk
      go_wp2_with (at_mapUpdate; refine wpList_mapUpdate_own _ rfl _ _ _ 62 rfl 65 3 law65 Tryd.underlying62 _ w.heap.size c _ rfl HO.out (by unfold maxLen; omega) _ _ _ rfl rfl HKK.out _ [] (plainElem_int Tryd.underlying3 (wf_small (by omega) (by omega))) ?_; intro w2 hown2 hgr2; rw [HMD.out] at hown2; have HO2 := Aside0.mk hown2; have HB2 := Aside0.mk (HB.out.grown hgr2 HB.out.size (fun k e => by cases e; exact Nat.le_refl _)); clear hown2 hgr2 HO HB)
      go_roundg k2
      case measure => omega
      case rel => exact ⟨c + 1, (by first | rfl | (rw [HW1.out]; rfl)), ⟨by have := HC.out; have := HCC.out; omega⟩, HB2, HO2⟩
    · have ccb : decide ((c : Int) < 257) = false := decide_eq_false (by omega)
      obtain rfl : c = 257 := by have := HC.out; omega
      clear cc
      go_wp2
      go_ret
      exact ⟨_, rfl, HO.out, Nat.le_refl _, HB.out⟩
end Go.Proofs.YtlbjhbanfpnogaaDoor.QH

/-
  THE LAW ItemBack: an item is read back from its bytes, whatever is behind them; cut short they are too few; what bytes begin with may be, and is read back from its own.
  Conditions: none but the row's own.
-/
import Derived.Test.YtlbjhbanfpnogaaDoorPureItemB
import Derived.Test.YtlbjhbanfpnogaaDoorIb
import Derived.OpenShut
namespace Go.Proofs.YtlbjhbanfpnogaaDoor.Pure
open Go Go.RowKit Go.Proofs.YtlbjhbanfpnogaaDoor.QH Go.Proofs.YtlbjhbanfpnogaaDoor.QI Go.Proofs.YtlbjhbanfpnogaaDoor.QJ Go.Proofs.YtlbjhbanfpnogaaDoor.PrefixPure Go.Proofs.YtlbjhbanfpnogaaDoorW.PrintWords Go.Proofs.YtlbjhbanfpnogaaDoorW.PrintLast
set_option linter.unusedVariables false
theorem str_size (l : List Int) : (strOfNums l).size = l.length := by
  unfold strOfNums
  show (List.map (fun n : Int => UInt8.ofNat n.toNat) l).toArray.size = l.length
  simp
theorem litD_size {l : List Int} (hb : Bytes l) (most : Int) (hm : 0 ≤ most) (h : (litD l most).2.2 = 0) : ((litD l most).1.size : Int) ≤ most := by
  unfold litD at h ⊢
  obtain ⟨⟨n, q, e⟩, hd⟩ : ∃ x, dec l 7 = x := ⟨_, rfl⟩
  rw [hd] at h ⊢
  simp only [] at h ⊢
  by_cases he : e = 0
  · subst he
    obtain ⟨h1, h2, h3, h4⟩ := dec_range hb hd
    rw [if_pos rfl] at h ⊢
    unfold litT at h ⊢
    by_cases h5 : (l.length : Int) - q < n
    · rw [if_pos h5] at h; simp at h
    · rw [if_neg h5] at h ⊢
      by_cases h6 : rd l 0 < 128
      · rw [if_pos h6] at h ⊢
        by_cases h7 : n > mx most 0
        · rw [if_pos h7] at h; simp at h
        · rw [if_neg h7]
          have h8 : n ≤ most := by unfold mx at h7; split at h7 <;> omega
          simp only []
          rw [str_size, List.length_drop, List.length_take]
          omega
      · rw [if_neg h6] at h ⊢
        obtain ⟨⟨z, ze⟩, hz⟩ : ∃ x, decL most (bytesBits ((l.take (q + n).toNat).drop q.toNat)) 0 0 [] = x := ⟨_, rfl⟩
        rw [hz] at h ⊢
        simp only [] at h ⊢
        by_cases h8 : ze = 0
        · subst h8
          rw [if_pos rfl]
          simp only []
          rw [str_size]
          exact (back_enc (isB ((hb.take _).drop _)) most hm hz).2.2
        · rw [if_neg h8] at h; exact absurd h h8
  · rw [if_neg he] at h; exact absurd h he
theorem nil_toList : ((⟨#[]⟩ : ByteArray).toList = ([] : List UInt8)) := by rw [ByteArray.toList_eq]
theorem last_sound {l : List Int} (hb : Bytes l) (kk : Nat) (hk : 1 ≤ kk ∧ kk ≤ 3) (n : Int) (hn : 0 ≤ n ∧ n ≤ 16777215) (nm : ByteArray) (hnm : nm.size ≤ 300) (hor : n = 0 ∨ nm = ⟨#[]⟩) (q : Int) {y0 y1 : Int} {t2 t3 : ByteArray} {yq : Int} (h : lastD l 300 (kk : Int) n nm q = (y0, y1, t2, t3, yq, 0)) :
    rightB y0 y1 t2 t3 = true ∧ t2.size ≤ 300 ∧ t3.size ≤ 300 := by
  unfold lastD at h
  by_cases he : (litD (l.drop q.toNat) 300).2.2 = 0
  · have hs := litD_size (hb.drop q.toNat) 300 (by omega) he
    rw [if_pos he] at h
    simp only [Prod.mk.injEq] at h
    obtain ⟨rfl, rfl, rfl, rfl, _⟩ := h
    refine ⟨?_, hnm, by omega⟩
    unfold rightB
    rw [if_neg (by omega), if_neg (by omega), if_neg (by omega), if_pos (by omega)]
    by_cases h0 : n = 0
    · rw [if_pos h0]
    · rw [if_neg h0, hor.resolve_left h0, nil_toList]; rfl
  · rw [if_neg he] at h
    simp only [errD, Prod.mk.injEq] at h
    exact absurd h.2.2.2.2.2 he
theorem item_sound {l : List Int} (hb : Bytes l) {y0 y1 : Int} {t2 t3 : ByteArray} {yq : Int} (h : itemD l 300 = (y0, y1, t2, t3, yq, 0)) : rightB y0 y1 t2 t3 = true ∧ t2.size ≤ 300 ∧ t3.size ≤ 300 := by
  unfold itemD at h
  by_cases h0 : l.length = 0
  · rw [if_pos h0] at h; simp [errD] at h
  · rw [if_neg h0] at h
    have hk5 : kOf l < 5 := kdN_lt _
    obtain ⟨⟨n, q, e⟩, hd⟩ : ∃ x, dec l (shB (kOf l) : Int) = x := ⟨_, rfl⟩
    rw [hd] at h
    generalize kOf l = kk at *
    simp only [] at h
    unfold itemK at h
    by_cases he : e = 0
    · subst he
      obtain ⟨h1, h2, h3, h4⟩ := dec_rangeB (shB_in kk) hb hd
      rw [if_pos rfl] at h
      by_cases hz : kk = 0 ∧ n = 0
      · rw [if_pos hz] at h; simp [errD] at h
      · rw [if_neg hz] at h
        by_cases ht : 1 ≤ kk ∧ kk ≤ 3
        · rw [if_pos ht, show itBound 300 = 300 from by decide] at h
          unfold textD at h
          by_cases hn : n = 0
          · rw [if_pos hn] at h
            by_cases ha : (litD (l.drop q.toNat) 300).2.2 = 0
            · rw [if_pos ha] at h
              have hs := litD_size (hb.drop q.toNat) 300 (by omega) ha
              exact last_sound hb kk ht n ⟨h1, h2⟩ _ (by omega) (.inl hn) _ h
            · rw [if_neg ha] at h
              simp only [errD, Prod.mk.injEq] at h
              exact absurd h.2.2.2.2.2 ha
          · rw [if_neg hn] at h
            exact last_sound hb kk ht n ⟨h1, h2⟩ _ (by decide) (.inr rfl) _ h
        · rw [if_neg ht] at h
          simp only [Prod.mk.injEq] at h
          obtain ⟨rfl, rfl, rfl, rfl, _⟩ := h
          refine ⟨?_, by decide, by decide⟩
          have e0 : (⟨#[]⟩ : ByteArray).size = 0 := rfl
          unfold rightB
          rw [e0, if_neg (by omega)]
          by_cases hk : kk = 0
          · rw [if_pos (by omega), if_pos (by omega), if_pos nil_toList, nil_toList]; rfl
          · rw [if_neg (by omega), if_pos (by omega), if_pos nil_toList, nil_toList]; rfl
    · rw [if_neg he] at h
      simp only [errD, Prod.mk.injEq] at h
      exact absurd h.2.2.2.2.2 he
theorem itemE_bytes {x0 x1 : Int} {s2 s3 : ByteArray} (h : rightB x0 x1 s2 s3 = true) : Bytes (itemE x0 x1 s2 s3) := by
  obtain ⟨h0, h1, h2, h3, h4, h5⟩ := right_in h
  have he := enc_bytes (item_ok h)
  unfold itemE
  split
  · split
    · exact (he.append (lit_bytes _ _ h4)).append (lit_bytes _ _ h5)
    · exact he.append (lit_bytes _ _ h5)
  · exact he
theorem itemE_lens (x0 x1 : Int) {s2 s3 : ByteArray} (h2 : s2.size ≤ 300) (h3 : s3.size ≤ 300) : 1 ≤ (itemE x0 x1 s2 s3).length ∧ (itemE x0 x1 s2 s3).length ≤ 3000 := by
  have hl := enc_length x1 (shB x0.toNat : Int) (shA x0.toNat : Int)
  have l2 := lit_len2 (shq s2) s2 (by omega)
  have l3 := lit_len2 (shq s3) s3 (by omega)
  unfold itemE
  split
  · split
    · rw [List.length_append, List.length_append]; omega
    · rw [List.length_append]; omega
  · omega
theorem back_ok (k : Nat) (hk : 20 ≤ k) (x0 x1 : Int) (s2 s3 : ByteArray) (l : List Int) (cut : Int) (hb : Bytes l) (hc : 0 ≤ cut) : BackOk k x0 x1 s2 s3 l cut := by
  refine ⟨rfl, fun h2 h3 hl => ?_⟩
  obtain ⟨⟨y0, y1, t2, t3, yq, ye⟩, hy⟩ : ∃ x, itemD l 300 = x := ⟨_, rfl⟩
  obtain ⟨⟨c, ce⟩, hce⟩ : ∃ x, (if rightB x0 x1 s2 s3 = true then (itemE x0 x1 s2 s3, (0 : Int)) else ([], 1)) = x := ⟨_, rfl⟩
  refine ⟨y0, y1, t2, t3, yq, ye, c, ce, by rw [itemDE hk hb (by omega), hy], fun h0 => ?_, by rw [itemEE hk, hce], ?_, fun h0 => ?_⟩
  · subst h0
    obtain ⟨hr, hs2, hs3⟩ := item_sound hb hy
    have hbk := item_back hr hs2 hs3 []
    rw [List.append_nil] at hbk
    have hln := itemE_lens y0 y1 hs2 hs3
    exact ⟨itemE y0 y1 t2 t3, by rw [itemEE hk, if_pos hr], by rw [itemDE hk (itemE_bytes hr) (by omega), hbk], by rw [rightE (by omega), hr]⟩
  · rw [rightE (by omega)]
    by_cases hr : rightB x0 x1 s2 s3 = true
    · rw [if_pos hr] at hce
      simp only [Prod.mk.injEq] at hce
      rw [hr, ← hce.2]; rfl
    · rw [if_neg hr] at hce
      simp only [Prod.mk.injEq] at hce
      rw [Bool.eq_false_iff.mpr hr, ← hce.2]; rfl
  · by_cases hr : rightB x0 x1 s2 s3 = true
    · rw [if_pos hr] at hce
      simp only [Prod.mk.injEq] at hce
      obtain ⟨rfl, _⟩ := hce
      have hln := itemE_lens x0 x1 h2 h3
      have hbt := itemE_bytes hr
      have hm1 : cut % ((itemE x0 x1 s2 s3).length : Int) < ((itemE x0 x1 s2 s3).length : Int) := Int.emod_lt_of_pos _ (by omega)
      have hm0 : 0 ≤ cut % ((itemE x0 x1 s2 s3).length : Int) := Int.emod_nonneg _ (by omega)
      refine ⟨by omega, by omega, by rw [itemDE hk (hbt.append hb) (by rw [List.length_append]; omega), item_back hr h2 h3 l], ?_⟩
      have hsh := item_short hr h2 h3 (cut % ((itemE x0 x1 s2 s3).length : Int)).toNat (by omega)
      rw [itemDE hk (hbt.take _) (by rw [List.length_take]; omega)]
      obtain ⟨⟨g0, g1, g2, g3, g4, g5⟩, hg⟩ : ∃ x, itemD ((itemE x0 x1 s2 s3).take (cut % ((itemE x0 x1 s2 s3).length : Int)).toNat) 300 = x := ⟨_, rfl⟩
      rw [hg] at hsh ⊢
      simp only [] at hsh
      subst hsh
      exact ⟨g0, g1, g2, g3, g4, rfl⟩
    · rw [if_neg hr] at hce
      simp only [Prod.mk.injEq] at hce
      omega
theorem ItemBack (a0 a1 : Int) (s2 s3 : ByteArray) (l1 : List Int) (a2 : Int) (w0 : (Lit.int .i64 a0).wf = true ∧ (Lit.int .i64 a1).wf = true ∧ s2.size ≤ maxLen ∧ s3.size ≤ maxLen) (m1 : l1.length ≤ maxLen) (hw : ∀ x ∈ l1, (Lit.int .u8 x).wf = true) (w2 : (Lit.int .u16 a2).wf = true) :
    ∃ k, gantletlaw08_ItemBack.f k a0 a1 s2 s3 l1 a2 = some true := by
  have hb := wf_bytes hw
  have hc : 0 ≤ a2 ∧ a2 ≤ 65535 := by have := bounds_u16 w2; omega
  refine ⟨20, ?_⟩
  unfold gantletlaw08_ItemBack.f
  rw [if_pos ⟨back_ok 20 (by omega) a0 a1 s2 s3 l1 a2 hb hc.1, hc⟩]
end Go.Proofs.YtlbjhbanfpnogaaDoor.Pure

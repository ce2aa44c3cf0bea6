/-
  What an item is as bytes (package item), as plain functions.
  Conditions: enough rounds; bytes are 0 to 255.
-/
import Derived.Test.YtlbjhbanfpnogaaDoorPureLit
import Derived.Test.YtlbjhbanfpnogaaDoorJq
import Derived.OpenShut
namespace Go.Proofs.YtlbjhbanfpnogaaDoor.Pure
open Go Go.RowKit Go.Proofs.YtlbjhbanfpnogaaDoor.QH Go.Proofs.YtlbjhbanfpnogaaDoor.QI Go.Proofs.YtlbjhbanfpnogaaDoor.QJ Go.Proofs.YtlbjhbanfpnogaaDoor.PrefixPure Go.Proofs.YtlbjhbanfpnogaaDoorW.PrintWords Go.Proofs.YtlbjhbanfpnogaaDoorW.PrintLast
set_option linter.unusedVariables false
theorem shB_in (k : Nat) : 1 ≤ (shB k : Int) ∧ (shB k : Int) ≤ 8 := by unfold shB; (repeat' split) <;> omega
theorem p2_k (k : Nat) (h : k < 5) : p2 (shB k : Int) = 2 ^ shB k := by
  rcases (by omega : k = 0 ∨ k = 1 ∨ k = 2 ∨ k = 3 ∨ k = 4) with rfl | rfl | rfl | rfl | rfl <;> decide
theorem sh_ok (k : Nat) (h : k < 5) : 0 ≤ (shA k : Int) ∧ (shA k : Int) ≤ 255 ∧ (shA k : Int) % p2 (shB k : Int) = 0 := by
  rcases (by omega : k = 0 ∨ k = 1 ∨ k = 2 ∨ k = 3 ∨ k = 4) with rfl | rfl | rfl | rfl | rfl <;> decide
theorem dec_rangeB {l : List Int} {n q b : Int} (hb1 : 1 ≤ b ∧ b ≤ 8) (hb : Bytes l) (h : dec l b = (n, q, 0)) : 0 ≤ n ∧ n ≤ 16777215 ∧ 1 ≤ q ∧ q ≤ l.length := by
  have hp := p2_pos hb1
  unfold dec at h
  rw [if_pos hb1] at h
  cases l with
  | nil => simp at h
  | cons c l =>
    have hc := hb.head
    have h3 : 0 ≤ c % p2 b := Int.emod_nonneg _ (by omega)
    have h4 : c % p2 b < p2 b := Int.emod_lt_of_pos _ (by omega)
    simp only [] at h
    by_cases h1 : c % p2 b < p2 b - 1
    · rw [if_pos h1] at h
      simp only [Prod.mk.injEq, and_true] at h
      simp only [List.length_cons]
      omega
    · rw [if_neg h1] at h
      have := go_range 4 l _ _ _ n q hb.tail (by omega) (by omega) h
      simp only [List.length_cons]
      omega
theorem litD_range {l : List Int} (hb : Bytes l) (most : Int) (h : (litD l most).2.2 = 0) : 0 ≤ (litD l most).2.1 ∧ (litD l most).2.1 ≤ l.length := by
  unfold litD at h ⊢
  obtain ⟨⟨n, q, e⟩, hd⟩ : ∃ x, dec l 7 = x := ⟨_, rfl⟩
  rw [hd] at h ⊢
  simp only [] at h ⊢
  by_cases he : e = 0
  · subst he
    obtain ⟨h1, h2, h3, h4⟩ := dec_range hb hd
    rw [if_pos rfl] at h ⊢
    unfold litT at h ⊢
    by_cases h5 : (l.length : Int) - q < n
    · rw [if_pos h5] at h; simp at h
    · rw [if_neg h5] at h ⊢
      by_cases h6 : rd l 0 < 128
      · rw [if_pos h6] at h ⊢
        by_cases h7 : n > mx most 0
        · rw [if_pos h7] at h; simp at h
        · rw [if_neg h7]; simp only []; omega
      · rw [if_neg h6] at h ⊢
        by_cases h8 : (decL most (bytesBits ((l.take (q + n).toNat).drop q.toNat)) 0 0 []).2 = 0
        · rw [if_pos h8]; simp only []; omega
        · rw [if_neg h8] at h; exact absurd h h8
  · rw [if_neg he] at h; exact absurd h he
/-- May an item be? -/
def rightB (x0 x1 : Int) (s2 s3 : ByteArray) : Bool := if x1 < 0 ∨ x1 > 16777215 ∨ (s2.size : Int) > 65536 ∨ (s3.size : Int) > 65536 then false else (if x0 = 0 then (if x1 ≥ 1 then (if s2.toList = ([] : List UInt8) then (s3.toList == ([] : List UInt8)) else false) else false) else (if x0 = 4 then (if s2.toList = ([] : List UInt8) then (s3.toList == ([] : List UInt8)) else false) else (if 1 ≤ x0 ∧ x0 ≤ 3 then (if x1 = 0 then true else (s2.toList == ([] : List UInt8))) else false)))
theorem itTextsI (x0 : Int) : item_texts.f x0 = some (decide (1 ≤ x0 ∧ x0 ≤ 3)) := by
  unfold item_texts.f
  by_cases h : x0 ≥ 1
  · rw [if_pos h]
    by_cases h2 : x0 ≤ 3
    · rw [decide_eq_true h2, decide_eq_true ⟨h, h2⟩]
    · rw [decide_eq_false h2, decide_eq_false (fun h3 => h2 h3.2)]
  · rw [if_neg h, decide_eq_false (fun h3 => h h3.1)]
theorem right_j0 (k : Nat) (x0 x1 : Int) (s2 s3 : ByteArray) (h1 : ¬ x1 < 0) (h2 : ¬ x1 > 16777215) (h3 : ¬ (s2.size : Int) > 65536) (h4 : ¬ (s3.size : Int) > 65536) : item_Right.j0 (k + 1) false x0 x1 s2 s3 = some (rightB x0 x1 s2 s3) := by
  rw [item_Right.j0, if_neg (by decide)]
  unfold rightB
  rw [if_neg (show ¬ (x1 < 0 ∨ x1 > 16777215 ∨ (s2.size : Int) > 65536 ∨ (s3.size : Int) > 65536) by omega), itTextsI]
  by_cases a : x0 = 0
  · rw [if_pos a, if_pos a]
    by_cases b : x1 > 0
    · rw [if_pos b, if_pos (show x1 ≥ 1 by omega)]; split <;> rfl
    · rw [if_neg b, if_neg (show ¬ x1 ≥ 1 by omega)]
  · rw [if_neg a, if_neg a]
    by_cases b : x0 = 4
    · rw [if_pos b, if_pos b]; split <;> rfl
    · rw [if_neg b, if_neg b]
      simp only [Option.bind_some]
      by_cases c : 1 ≤ x0 ∧ x0 ≤ 3
      · rw [decide_eq_true c, if_pos rfl, if_pos c]; split <;> rfl
      · rw [decide_eq_false c, if_neg (by decide), if_neg c]
theorem rightE {k : Nat} (hk : 10 ≤ k) (x0 x1 : Int) (s2 s3 : ByteArray) : item_Right.f k x0 x1 s2 s3 = some (rightB x0 x1 s2 s3) := by
  obtain ⟨k, rfl⟩ : ∃ q, k = q + 1 := ⟨k - 1, by omega⟩
  have hf : ∀ y : Bool, y = true → item_Right.j0 (k + 1) y x0 x1 s2 s3 = some false := fun y hy => by rw [item_Right.j0, if_pos hy]
  have hz : (x1 < 0 ∨ x1 > 16777215 ∨ (s2.size : Int) > 65536 ∨ (s3.size : Int) > 65536) → rightB x0 x1 s2 s3 = false := fun h => by unfold rightB; rw [if_pos h]
  unfold item_Right.f
  by_cases h1 : x1 < 0
  · rw [if_pos h1, hf _ rfl, hz (by omega)]
  · rw [if_neg h1]
    by_cases h2 : x1 > 16777215
    · rw [if_pos h2, hf _ rfl, hz (by omega)]
    · rw [if_neg h2]
      by_cases h3 : (s2.size : Int) > 65536
      · rw [if_pos h3, hf _ rfl, hz (by omega)]
      · rw [if_neg h3]
        by_cases h4 : (s3.size : Int) > 65536
        · rw [decide_eq_true h4, hf _ rfl, hz (by omega)]
        · rw [decide_eq_false h4]; exact right_j0 k x0 x1 s2 s3 h1 h2 h3 h4
theorem right_in {x0 x1 : Int} {s2 s3 : ByteArray} (h : rightB x0 x1 s2 s3 = true) : 0 ≤ x0 ∧ x0 < 5 ∧ 0 ≤ x1 ∧ x1 ≤ 16777215 ∧ s2.size ≤ 65536 ∧ s3.size ≤ 65536 := by
  unfold rightB at h
  by_cases a : x1 < 0 ∨ x1 > 16777215 ∨ (s2.size : Int) > 65536 ∨ (s3.size : Int) > 65536
  · rw [if_pos a] at h; cases h
  · rw [if_neg a] at h
    by_cases b : x0 = 0
    · omega
    · rw [if_neg b] at h
      by_cases c : x0 = 4
      · omega
      · rw [if_neg c] at h
        by_cases d : 1 ≤ x0 ∧ x0 ≤ 3
        · omega
        · rw [if_neg d] at h; cases h
/-- The bytes of an item. -/
def itemE (x0 x1 : Int) (s2 s3 : ByteArray) : List Int := if 1 ≤ x0 ∧ x0 ≤ 3 then (if x1 = 0 then enc x1 (shB x0.toNat : Int) (shA x0.toNat : Int) ++ lit (shq s2) s2 ++ lit (shq s3) s3 else enc x1 (shB x0.toNat : Int) (shA x0.toNat : Int) ++ lit (shq s3) s3) else enc x1 (shB x0.toNat : Int) (shA x0.toNat : Int)
theorem item_ok {x0 x1 : Int} {s2 s3 : ByteArray} (h : rightB x0 x1 s2 s3 = true) : ok x1 (shB x0.toNat : Int) (shA x0.toNat : Int) := by
  obtain ⟨h0, h1, h2, h3, h4, h5⟩ := right_in h
  have := sh_ok x0.toNat (by omega)
  exact ⟨h2, h3, shB_in _, this.1, this.2.1, this.2.2⟩
theorem lit_len2 (q : Bool) (s : ByteArray) (hs : s.size ≤ 65536) : (lit q s).length ≤ 4 * s.size + 7 := by
  have h1 := own_len q s hs
  have h2 := lit_len q s
  omega
theorem itemEE {k : Nat} (hk : 20 ≤ k) (x0 x1 : Int) (s2 s3 : ByteArray) : item_Encode.f k x0 x1 s2 s3 = some (if rightB x0 x1 s2 s3 = true then (itemE x0 x1 s2 s3, 0) else ([], 1)) := by
  unfold item_Encode.f
  rw [rightE (by omega)]
  simp only [Option.bind_some]
  by_cases h : rightB x0 x1 s2 s3 = true
  · obtain ⟨h0, h1, h2, h3, h4, h5⟩ := right_in h
    have hl := enc_length x1 (shB x0.toNat : Int) (shA x0.toNat : Int)
    have l2 := lit_len2 (shq s2) s2 h4
    have l3 := lit_len2 (shq s3) s3 h5
    rw [if_pos h, if_pos h, if_pos ⟨h0, h1⟩, encE hk, if_pos (item_ok h), itTextsI]
    simp only [Option.bind_some]
    unfold itemE
    by_cases c : 1 ≤ x0 ∧ x0 ≤ 3
    · rw [decide_eq_true c, if_pos rfl, if_pos c, shortE hk s3 h5]
      by_cases d : x1 = 0
      · rw [if_pos d, if_pos d, shortE hk s2 h4]
        simp only [Option.bind_some]
        rw [if_pos (by omega), if_pos (by rw [List.length_append]; omega)]
      · rw [if_neg d, if_neg d]
        simp only [Option.bind_some]
        rw [if_pos (by omega)]
    · rw [decide_eq_false c, if_neg (by decide), if_neg c]
  · rw [if_neg h, if_neg h]
/-- The item that bytes begin with. -/
def errD (e : Int) : Int × Int × ByteArray × ByteArray × Int × Int := (0, 0, ⟨#[]⟩, ⟨#[]⟩, 0, e)
def lastD (l : List Int) (bd kk n : Int) (nm : ByteArray) (q : Int) : Int × Int × ByteArray × ByteArray × Int × Int := if (litD (l.drop q.toNat) bd).2.2 = 0 then (kk, n, nm, (litD (l.drop q.toNat) bd).1, q + (litD (l.drop q.toNat) bd).2.1, 0) else errD (litD (l.drop q.toNat) bd).2.2
def textD (l : List Int) (bd kk n q : Int) : Int × Int × ByteArray × ByteArray × Int × Int := if n = 0 then (if (litD (l.drop q.toNat) bd).2.2 = 0 then lastD l bd kk n (litD (l.drop q.toNat) bd).1 (q + (litD (l.drop q.toNat) bd).2.1) else errD (litD (l.drop q.toNat) bd).2.2) else lastD l bd kk n ⟨#[]⟩ q
def itemK (l : List Int) (most : Int) (kk : Nat) (n q e : Int) : Int × Int × ByteArray × ByteArray × Int × Int := if e = 0 then (if kk = 0 ∧ n = 0 then errD 3 else (if 1 ≤ kk ∧ kk ≤ 3 then textD l (itBound most) kk n q else (kk, n, ⟨#[]⟩, ⟨#[]⟩, q, 0))) else errD e
def kOf (l : List Int) : Nat := kdN (rd l 0).toNat
def itemD (l : List Int) (most : Int) : Int × Int × ByteArray × ByteArray × Int × Int := if l.length = 0 then errD 2 else itemK l most (kOf l) (dec l (shB (kOf l) : Int)).1 (dec l (shB (kOf l) : Int)).2.1 (dec l (shB (kOf l) : Int)).2.2
theorem step_true (k : Nat) (l : List Int) (most q e : Int) : itStep k l most true q e = some (⟨#[]⟩, q, e) := by unfold itStep; rw [if_pos rfl]
theorem step_false {k : Nat} (hk : 20 ≤ k) {l : List Int} (hb : Bytes l) (hl : l.length ≤ 1000000) (most q e : Int) (h0 : 0 ≤ q) (h1 : q ≤ l.length) : itStep k l most false q e = some ((litD (l.drop q.toNat) (itBound most)).1, wrap64 (q + (litD (l.drop q.toNat) (itBound most)).2.1), (litD (l.drop q.toNat) (itBound most)).2.2) := by
  unfold itStep
  rw [if_neg (by decide), if_pos ⟨h0, h1⟩, litDE hk _ _ (hb.drop _) (by rw [List.length_drop]; omega)]
  rfl
theorem last_steps {k : Nat} (hk : 20 ≤ k) {l : List Int} (hb : Bytes l) (hl : l.length ≤ 1000000) (most : Int) (kk : Nat) (n : Int) (nm : ByteArray) (q : Int) (h0 : 0 ≤ q) (h1 : q ≤ l.length) (hkk : 1 ≤ kk ∧ kk ≤ 3) :
    ((itStep k l most (itSkip (kk : Int) n 0 1) q 0).bind fun y => some (itEnd (kk : Int) n nm y.1 y.2.1 y.2.2)) = some (lastD l (itBound most) (kk : Int) n nm q) := by
  have hs : itSkip (kk : Int) n 0 1 = false := by unfold itSkip; rw [if_pos rfl, if_pos (by omega), if_neg (by decide)]
  have hr := litD_range (hb.drop q.toNat) (itBound most)
  rw [List.length_drop] at hr
  rw [hs, step_false hk hb hl most q 0 h0 h1]
  simp only [Option.bind_some]
  unfold itEnd lastD
  by_cases he : (litD (l.drop q.toNat) (itBound most)).2.2 = 0
  · rw [if_pos he, if_pos he, if_neg (by omega), wr (by omega) (by omega)]
  · rw [if_neg he, if_neg he]; rfl
theorem itemDE {k : Nat} (hk : 20 ≤ k) {l : List Int} (hb : Bytes l) (hl : l.length ≤ 1000000) (most : Int) : item_Decode.f k l most = some (itemD l most) := by
  unfold item_Decode.f itemD
  by_cases h0 : l.length = 0
  · rw [if_pos (by omega), if_pos h0]; rfl
  · rw [if_neg (by omega), if_neg h0]
    have hby := rd_byte hb (i := 0) (by omega) (by omega)
    have hkind : item_kind.f (rd l 0) = some (kOf l : Int) := by unfold item_kind.f; rw [if_pos hby]; rfl
    have hk5 : kOf l < 5 := kdN_lt _
    rw [hkind]
    simp only [Option.bind_some, Int.toNat_natCast]
    rw [decE hk l hb]
    simp only [Option.bind_some]
    obtain ⟨⟨n, q, e⟩, hd⟩ : ∃ x, dec l (shB (kOf l) : Int) = x := ⟨_, rfl⟩
    rw [hd]
    generalize kOf l = kk at *
    simp only []
    unfold itemK
    by_cases he : e = 0
    · subst he
      obtain ⟨h1, h2, h3, h4⟩ := dec_rangeB (shB_in kk) hb hd
      rw [if_pos rfl]
      by_cases ht : 1 ≤ kk ∧ kk ≤ 3
      · rw [if_neg (by omega), if_pos ht]
        unfold textD
        by_cases hn : n = 0
        · have hs : itSkip (kk : Int) n 0 0 = false := by unfold itSkip; rw [if_pos rfl, if_pos (by omega), if_pos rfl, decide_eq_false (by omega)]
          have hr := litD_range (hb.drop q.toNat) (itBound most)
          rw [List.length_drop] at hr
          rw [hs, step_false hk hb hl most q 0 (by omega) h4, if_pos hn]
          simp only [Option.bind_some]
          by_cases ha : (litD (l.drop q.toNat) (itBound most)).2.2 = 0
          · rw [if_pos ha, ha, wr (by omega) (by omega)]
            exact last_steps hk hb hl most kk n _ _ (by omega) (by omega) ht
          · rw [if_neg ha]
            have hs2 : itSkip (kk : Int) n (litD (l.drop q.toNat) (itBound most)).2.2 1 = true := by unfold itSkip; rw [if_neg ha]
            rw [hs2, step_true]
            simp only [Option.bind_some]
            unfold itEnd
            rw [if_neg ha]; rfl
        · have hs : itSkip (kk : Int) n 0 0 = true := by unfold itSkip; rw [if_pos rfl, if_pos (by omega), if_pos rfl, decide_eq_true (by omega)]
          rw [hs, step_true, if_neg hn]
          simp only [Option.bind_some]
          exact last_steps hk hb hl most kk n _ _ (by omega) h4 ht
      · have hs : ∀ i, itSkip (kk : Int) n 0 i = true := fun i => by unfold itSkip; rw [if_pos rfl, if_neg (by omega)]
        rw [hs 0, step_true]
        simp only [Option.bind_some]
        rw [hs 1, step_true]
        simp only [Option.bind_some]
        unfold itEnd
        rw [if_pos rfl, if_neg ht]
        by_cases hz : kk = 0 ∧ n = 0
        · rw [if_pos hz, if_pos (by omega)]; rfl
        · rw [if_neg hz, if_neg (by omega)]
    · have hs : ∀ i, itSkip (kk : Int) n e i = true := fun i => by unfold itSkip; rw [if_neg he]
      rw [hs 0, step_true]
      simp only [Option.bind_some]
      rw [hs 1, step_true]
      simp only [Option.bind_some]
      unfold itEnd
      rw [if_neg he, if_neg he]; rfl
end Go.Proofs.YtlbjhbanfpnogaaDoor.Pure

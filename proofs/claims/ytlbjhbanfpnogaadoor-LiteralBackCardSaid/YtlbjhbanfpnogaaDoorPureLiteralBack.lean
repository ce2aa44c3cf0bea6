/-
  THE LAW LiteralBack: a text is read back from its bytes, whatever is behind them; cut short they are too few; a bound that is less is told.
  Conditions: none but the row's own.
-/
import Derived.Test.YtlbjhbanfpnogaaDoorPureLit
import Derived.Test.YtlbjhbanfpnogaaDoorQI4
namespace Go.Proofs.YtlbjhbanfpnogaaDoor.Pure
open Go Go.RowKit Go.Proofs.YtlbjhbanfpnogaaDoor.QH Go.Proofs.YtlbjhbanfpnogaaDoor.QI Go.Proofs.YtlbjhbanfpnogaaDoor.PrefixPure Go.Proofs.YtlbjhbanfpnogaaDoorW.PrintWords Go.Proofs.YtlbjhbanfpnogaaDoorW.PrintLast
set_option linter.unusedVariables false
theorem alive05b {k : Nat} (hk : 60 ≤ k) : gantletlaw05_alive.f k = some true :=
  at_rounds gantletlaw05_alive.mono hk (show gantletlaw05_alive.f 60 = some true by decide +kernel)
theorem bitsT_append : ∀ a b : List Int, bitsT (a ++ b) = bitsT a ++ bitsT b
  | [], b => rfl
  | x :: a, b => by rw [List.cons_append, bitsT, bitsT, bitsT_append a b, List.append_assoc]
/-- A bound that is less than the text. -/
theorem dec_full {b : List Int} (hb : isBytes b) (most : Int) (h0 : 0 ≤ most) (h1 : most < b.length) (bs : List Nat) : decL most (bitsT b ++ bs) 0 0 [] = ([], 4) := by
  have e := List.take_append_drop most.toNat b
  have hd : b.drop most.toNat = b[most.toNat]'(by omega) :: b.drop (most.toNat + 1) := List.drop_eq_getElem_cons (by omega)
  have hlt : (b.take most.toNat).length = most.toNat := by rw [List.length_take]; omega
  have hc := hb _ (List.getElem_mem (l := b) (n := most.toNat) (by omega))
  rw [← e, hd, bitsT_append, List.append_assoc, dec_text most _ (b.take most.toNat) [] (fun x hx => hb x (List.mem_of_mem_take hx)) (by rw [hlt]; simp; omega), bitsT, List.append_assoc, dec_one most _ (by omega)]
  unfold afterC
  rw [if_neg (by omega), if_pos (by rw [List.nil_append, hlt]; omega)]
theorem enc_first (n : Int) (q : Bool) (h0 : 0 ≤ n) (r : List Int) : (rd (enc n 7 (hi q) ++ r) 0 < 128) = (q = false) := by
  have hp := p27
  unfold enc rd
  cases q with
  | false =>
    have : hi false = 0 := rfl
    by_cases h : n < p2 7 - 1
    · rw [if_pos h]; simp; omega
    · rw [if_neg h]; simp; omega
  | true =>
    have : hi true = 128 := rfl
    by_cases h : n < p2 7 - 1
    · rw [if_pos h]; simp; omega
    · rw [if_neg h]; simp; omega
theorem lit_dec (q : Bool) (s : ByteArray) (hs : s.size ≤ 65536) (r : List Int) : dec (lit q s ++ r) 7 = (((own q s).length : Int), ((enc ((own q s).length : Int) 7 (hi q)).length : Int), 0) := by
  unfold lit
  rw [List.append_assoc]
  exact dec_enc (own_ok q s hs) _
theorem cut_own (a b r : List Int) : ((a ++ b ++ r).take ((a.length : Int) + (b.length : Int)).toNat).drop ((a.length : Int)).toNat = b := by
  rw [show ((a.length : Int) + (b.length : Int)).toNat = a.length + b.length by omega, Int.toNat_natCast, List.append_assoc, List.take_append, List.take_of_length_le (by omega)]
  rw [show a.length + b.length - a.length = b.length by omega, List.drop_append, List.drop_length, Nat.sub_self, List.nil_append, List.drop_zero]
  simp
/-- Read back. -/
theorem back_all (q : Bool) (s : ByteArray) (hs : s.size ≤ 65536) (r : List Int) : litD (lit q s ++ r) (s.size : Int) = (s, ((lit q s).length : Int), 0) := by
  have hd := lit_dec q s hs r
  have hl := own_len q s hs
  unfold litD
  rw [hd, if_pos rfl]
  unfold litT
  have hlen : (lit q s ++ r).length = (enc ((own q s).length : Int) 7 (hi q)).length + (own q s).length + r.length := by unfold lit; simp [Nat.add_assoc]
  have hlit : (lit q s).length = (enc ((own q s).length : Int) 7 (hi q)).length + (own q s).length := by unfold lit; simp
  have hf : (rd (lit q s ++ r) 0 < 128) = (q = false) := by unfold lit; rw [List.append_assoc]; exact enc_first _ q (by omega) _
  have hcut := cut_own (enc ((own q s).length : Int) 7 (hi q)) (own q s) r
  rw [show (enc ((own q s).length : Int) 7 (hi q)) ++ own q s ++ r = lit q s ++ r from rfl] at hcut
  simp only []
  rw [if_neg (by rw [hlen]; omega), hcut]
  cases q with
  | false =>
    have e : own false s = sb s := if_neg (by decide)
    rw [if_pos (by rw [hf])]
    rw [e, sb_len] at hlit ⊢
    rw [if_neg (by unfold mx; omega), sb_str]
    simp only [Prod.mk.injEq, true_and, and_true]
    omega
  | true =>
    have e : own true s = encO (sb s) [] 0 0 := if_pos rfl
    rw [if_neg (by rw [hf]; decide), e, back_dec (sb_bytes s) _ (by rw [sb_len]; omega), if_pos rfl, sb_str]
    rw [e] at hlit
    simp only [Prod.mk.injEq, true_and, and_true]
    omega
/-- Cut short. -/
theorem back_short (q : Bool) (s : ByteArray) (hs : s.size ≤ 65536) (j : Nat) (hj : j < (lit q s).length) (most : Int) : litD ((lit q s).take j) most = (⟨#[]⟩, 0, 2) := by
  have hok := own_ok q s hs
  have hlit : (lit q s).length = (enc ((own q s).length : Int) 7 (hi q)).length + (own q s).length := by unfold lit; simp
  rcases Nat.lt_or_ge j (enc ((own q s).length : Int) 7 (hi q)).length with h | h
  · have e : (lit q s).take j = (enc ((own q s).length : Int) 7 (hi q)).take j := by unfold lit; rw [List.take_append_of_le_length (by omega)]
    unfold litD
    rw [e, dec_short hok j h]
    rfl
  · have e : (lit q s).take j = enc ((own q s).length : Int) 7 (hi q) ++ (own q s).take (j - (enc ((own q s).length : Int) 7 (hi q)).length) := by unfold lit; rw [List.take_append, List.take_of_length_le h]
    have hlen : ((lit q s).take j).length = j := by rw [List.length_take]; omega
    unfold litD
    rw [e, dec_enc hok, if_pos rfl]
    unfold litT
    rw [← e, hlen, if_pos (by simp only []; omega)]
/-- A bound that is less. -/
theorem back_full (q : Bool) (s : ByteArray) (hs : s.size ≤ 65536) (h1 : 1 ≤ s.size) : (litD (lit q s) ((s.size : Int) - 1)).2.2 = 4 := by
  have hd := lit_dec q s hs []
  have hl := own_len q s hs
  rw [List.append_nil] at hd
  unfold litD
  rw [hd, if_pos rfl]
  unfold litT
  have hlit : (lit q s).length = (enc ((own q s).length : Int) 7 (hi q)).length + (own q s).length := by unfold lit; simp
  have hf : (rd (lit q s) 0 < 128) = (q = false) := by unfold lit; exact enc_first _ q (by omega) _
  have hcut := cut_own (enc ((own q s).length : Int) 7 (hi q)) (own q s) []
  rw [List.append_nil, show (enc ((own q s).length : Int) 7 (hi q)) ++ own q s = lit q s from rfl] at hcut
  simp only []
  rw [if_neg (by rw [hlit]; omega), hcut]
  cases q with
  | false =>
    have e : own false s = sb s := if_neg (by decide)
    rw [if_pos (by rw [hf])]
    rw [e, sb_len]
    rw [if_pos (by unfold mx; split <;> omega)]
  | true =>
    have e : own true s = encO (sb s) [] 0 0 := if_pos rfl
    obtain ⟨_, p, _, h3⟩ := enc_bits (sb_bytes s)
    rw [if_neg (by rw [hf]; decide), e, h3, dec_full (sb_bytes s) _ (by omega) (by rw [sb_len]; omega)]
    rfl
theorem one_round (k : Nat) (hk : 100 ≤ k) (s : ByteArray) (behind : List Int) (cut : Int) (x11 : List (List Int)) (i : Int) (q : Bool) (hi0 : 0 ≤ i) (hi1 : i < 3) (h3 : x11.length = 3) (hx : rd_L2 x11 i = lit q s) (hs : s.size ≤ 300) (hb : Bytes behind) (hl : behind.length ≤ 300) (hc : 0 ≤ cut ∧ cut ≤ 65535) :
    gantletlaw05_LiteralBack.l0 (k + 1) s behind cut x11 i = gantletlaw05_LiteralBack.l0 k s behind cut x11 (i + 1) := by
  have h1 := own_len q s (by omega)
  have h2 := lit_len q s
  have hbt := lit_bytes q s (by omega)
  have hm0 : 0 ≤ cut % ((lit q s).length : Int) := Int.emod_nonneg _ (by omega)
  have hm1 : cut % ((lit q s).length : Int) < ((lit q s).length : Int) := Int.emod_lt_of_pos _ (by omega)
  rw [gantletlaw05_LiteralBack.l0, if_pos hi1, if_pos hi0, if_pos (by omega), hx, if_neg (by omega)]
  simp only [Option.bind_some, List.nil_append, List.length_nil, Nat.zero_add]
  rw [if_pos (by omega), if_pos (by omega), litDE (by omega) _ _ (hbt.append hb) (by rw [List.length_append]; omega), back_all q s (by omega)]
  simp only [Option.bind_some]
  rw [wr (x := cut) (by omega) (by omega), Int.tmod_eq_emod_of_nonneg (by omega), if_pos hm0, if_pos (by omega), litDE (by omega) _ _ (hbt.take _) (by rw [List.length_take]; omega), back_short q s (by omega) _ (by omega)]
  simp only [Option.bind_some]
  rw [wr (x := (s.size : Int) - 1) (by omega) (by omega), wr (x := i + 1) (by omega) (by omega), litDE (by omega) _ _ hbt (by omega)]
  simp only [Option.bind_some]
  rw [if_pos trivial, if_pos trivial, if_pos trivial, if_pos trivial]
  by_cases h0 : (s.size : Int) > 0
  · rw [if_pos h0, if_pos (back_full q s (by omega) (by omega))]
  · rw [if_neg h0]
theorem back05 (k : Nat) (hk : 100 ≤ k) (s : ByteArray) (behind : List Int) (cut : Int) (hs : s.size ≤ 300) (hb : Bytes behind) (hl : behind.length ≤ 300) (hc : 0 ≤ cut ∧ cut ≤ 65535) : gantletlaw05_LiteralBack.j0 (k + 6) s behind cut false = some true := by
  rw [gantletlaw05_LiteralBack.j0, if_neg (by decide), litE (by omega) _ s (by omega), litE (by omega) _ s (by omega), shortE (by omega) s (by omega)]
  simp only [Option.bind_some]
  obtain ⟨x, hx⟩ : ∃ x : List (List Int), x = [lit false s, lit true s, lit (shq s) s] := ⟨_, rfl⟩
  have h3 : x.length = 3 := by rw [hx]; rfl
  have x0 : rd_L2 x 0 = lit false s := by rw [hx]; rfl
  have x1 : rd_L2 x 1 = lit true s := by rw [hx]; rfl
  have x2 : rd_L2 x 2 = lit (shq s) s := by rw [hx]; rfl
  have hsh : (lit (shq s) s).length ≤ (lit false s).length ∧ (lit (shq s) s).length ≤ (lit true s).length := by
    unfold shq
    by_cases h : (lit false s).length ≤ (lit true s).length
    · rw [decide_eq_false (by omega)]; omega
    · rw [decide_eq_true (by omega)]; omega
  rw [← hx, if_pos trivial, if_pos trivial, if_pos (by omega), x2, if_neg (by omega), decide_eq_false (by omega)]
  rw [gantletlaw05_LiteralBack.j1, if_neg (by decide)]
  rw [one_round (k + 3) (by omega) s behind cut x 0 false (by omega) (by omega) h3 x0 hs hb hl hc]
  rw [show (0 : Int) + 1 = 1 from rfl, one_round (k + 2) (by omega) s behind cut x 1 true (by omega) (by omega) h3 x1 hs hb hl hc]
  rw [show (1 : Int) + 1 = 2 from rfl, one_round (k + 1) (by omega) s behind cut x 2 (shq s) (by omega) (by omega) h3 x2 hs hb hl hc]
  rw [gantletlaw05_LiteralBack.l0, if_neg (by omega), alive05b (by omega)]
  rfl
theorem LiteralBack (a0 : ByteArray) (l1 : List Int) (a2 : Int) (w0 : a0.size ≤ 140737488351232) (m1 : l1.length ≤ maxLen) (hw : ∀ x ∈ l1, (Lit.int .u8 x).wf = true) (w2 : (Lit.int .u16 a2).wf = true) :
    ∃ k, gantletlaw05_LiteralBack.f k a0 l1 a2 = some true := by
  have hb := wf_bytes hw
  have hc : 0 ≤ a2 ∧ a2 ≤ 65535 := by have := bounds_u16 w2; omega
  obtain ⟨k, hk⟩ : ∃ k, 100 ≤ k := ⟨100, Nat.le_refl _⟩
  have out : gantletlaw05_LiteralBack.j0 (k + 6) a0 l1 a2 true = some true := by rw [gantletlaw05_LiteralBack.j0, if_pos rfl, alive05b (by omega)]; rfl
  refine ⟨k + 6, ?_⟩
  unfold gantletlaw05_LiteralBack.f
  by_cases hs : (a0.size : Int) > 300
  · rw [if_pos hs]; exact out
  · rw [if_neg hs]
    by_cases hl : (l1.length : Int) > 300
    · rw [decide_eq_true hl]; exact out
    · rw [decide_eq_false hl]
      exact back05 k hk a0 l1 a2 (by omega) hb (by omega) hc
end Go.Proofs.YtlbjhbanfpnogaaDoor.Pure

/-
  Outlet's methods, and the document's, each with what it says and writes.
  Conditions: none of its own; lemmas that the claim's row rests on.
-/
import Derived.Test.YtbmnplojpeabmaaQO
import Derived.Test.YtbmnplojpeabmaaGrow
import Derived.Test.YtbmnplojpeabmaaObj
import Derived.Test.YtbmnplojpeabmaaPureFrame
import Derived.WalkKit
namespace Go.Proofs.Ytbmnplojpeabmaa.QO
open Go.RowKit Go.Proofs.YtbmnplojpeabmaaW.PrintWords Go.Proofs.YtbmnplojpeabmaaW.PrintLast Go.Proofs.YtbmnplojpeabmaaW.PrintMore
attribute [local go_sem] max2_int min2_int max_two min_two max_three min_three max_four min_four
set_option linter.unusedVariables false
set_option linter.unusedSimpArgs false
open Go.Proofs.Ytbmnplojpeabmaa.Ob
open Go.Proofs.Ytbmnplojpeabmaa.Ob
abbrev u8w (x : Int) : Value := .int .u8 x
theorem u8one : ∀ x : Int, (Value.int .u8 x).oneCell' = true := fun _ => rfl
/-- An outlet in block g, that holds bytes. -/
def IsO (w : World) (g : Nat) (v : Value) (l : List Int) : Prop := w.heap[g]? = some (.cells #[v] 138 (0, 0)) ∧ Gr (Value.int .u8) u8one 5 w v l ∧ v.ownBlock ≠ some g
/-- What an outlet's methods may write: its block, its row. -/
def Foot (g : Nat) (v : Value) : Nat → Prop := fun k => k = g ∨ v.ownBlock = some k
theorem IsO.keeps {w w1 : World} {g : Nat} {v : Value} {l : List Int} {S : Nat → Prop} (h : IsO w g v l) (hk : Keeps w w1 S) (hn : ∀ k, Foot g v k → ¬ S k) : IsO w1 g v l :=
  ⟨blk_keeps h.1 hk (hn g (.inl rfl)), h.2.1.keeps hk (fun k e => hn k (.inr e)), h.2.2⟩
theorem IsO.below {w w1 : World} {g : Nat} {v : Value} {l : List Int} (h : IsO w g v l) (hb : Below w.heap.size w w1) : IsO w1 g v l := h.keeps (Keeps.of_below hb (fun _ => False)) (fun _ _ h => h)
theorem IsO.reads {w : World} {g : Nat} {v : Value} {l : List Int} (h : IsO w g v l) : ∃ A c, v = .slice A l.length c ∧ l.length ≤ c ∧ Kd.C (Kd.int .u8) w A l.length l ∧ w.cell? ⟨g, 0, none⟩ = some v := by
  obtain ⟨A, c, e, h1, h2⟩ := h.2.1.reads 0
  exact ⟨A, c, e, h1, h2, blk_cell h.1 0⟩
theorem outlet_New.is (w : World) : Calls Try.prog 35 #[] w fun e w' => ∃ g, e = .returned (.pointer (some ⟨g, 0, none⟩)) ∧ IsO w' g (.slice none 0 0) [] ∧ w.heap.size ≤ g ∧ Below w.heap.size w w' := by
  go_enter Try.func35, Try.ntmps35
  go_wp2
  go_ret
  exact ⟨_, rfl, ⟨blk_new _ _, Gr.nil _ _ _ _, by simp [Value.ownBlock]⟩, Nat.le_refl _, below_alloc (Below.refl _ _) _⟩
theorem outlet_Len.is (w : World) (g : Nat) (v : Value) (l : List Int) (h : IsO w g v l) : Calls Try.prog 42 #[.pointer (some ⟨g, 0, none⟩)] w fun e w' => e = .returned (.int .i64 l.length) ∧ ∃ nd, w' = w.drewN nd := by
  obtain ⟨A, c, rfl, _, _, hc⟩ := h.reads
  go_enter Try.func42, Try.ntmps42
  go_wp2
  go_ret
  exact ⟨rfl, 0, rfl⟩
theorem outlet_Len.none_ (w : World) : Calls Try.prog 42 #[.pointer none] w fun e w' => e = .returned (.int .i64 0) ∧ ∃ nd, w' = w.drewN nd := by
  go_enter Try.func42, Try.ntmps42
  go_wp2
  go_ret
  exact ⟨rfl, 0, rfl⟩
/-- The row may turn: what holds behind it. -/
theorem IsO.turn {w w1 : World} {g : Nat} {v v1 : Value} {l l1 : List Int} (h : IsO w g v l) (hG : Gr (Value.int .u8) u8one 5 w1 v1 l1) (hg : w.grownBy w1 v.ownBlock) (hat : v1.ownBlock = v.ownBlock ∨ ∃ b, v1.ownBlock = some b ∧ w.heap.size ≤ b) : IsO (w1.setCell ⟨g, 0, none⟩ v1) g v1 l1 ∧ Keeps w (w1.setCell ⟨g, 0, none⟩ v1) (Foot g v) := by
  have h1 := blk_grown h.1 hg (fun e => h.2.2 e.symm)
  have hne : v1.ownBlock ≠ some g := by
    rcases hat with e | ⟨b, e, hb⟩
    · rw [e]; exact h.2.2
    · rw [e]; rintro ⟨⟩; exact absurd (blk_lt h.1) (by omega)
  refine ⟨⟨blk_put h1 0 _ rfl, ?_, hne⟩, (Keeps.grown (row := v.ownBlock) (Keeps.refl w _) hg (fun k e => .inl (.inr e))).set (.inl (.inl rfl)) 0 v1⟩
  exact hG.keeps (Keeps.set (S := One g) (Keeps.refl w1 _) (.inl rfl) 0 v1) (fun k e hk => hne (by rw [e, show k = g from hk]))
set_option maxHeartbeats 4000000 in
set_option maxRecDepth 100000 in
theorem outlet_Push.ok (k : Nat) (w : World) (g : Nat) (v : Value) (l : List Int) (a0 a1 a2 : Int) (A3 : Option Addr) (c3 : Nat) (l3 r1 : List Int) (h : IsO w g v l) (hr3 : Kd.C (Kd.int .u8) w A3 l3.length l3) (hc3 : l3.length ≤ c3) (hf : frame_Encode.f k a0 a1 a2 l3 = some (r1, 0)) (hl : l.length + r1.length ≤ 140737488355328) :
    Calls Try.prog 40 #[.pointer (some ⟨g, 0, none⟩), .agg #[.int .i64 a0, .int .i64 a1, .int .i64 a2, .slice A3 l3.length c3]] w fun e w' => e = .returned (.int .i64 0) ∧ ∃ v', IsO w' g v' (l ++ r1) ∧ Keeps w w' (Foot g v) ∧ (v'.ownBlock = v.ownBlock ∨ ∃ b, v'.ownBlock = some b ∧ w.heap.size ≤ b) := by
  have hu67 := Try.underlying67
  have HI := Aside0.mk h
  have HC := Aside0.mk hr3
  clear h hr3
  go_enter Try.func40, Try.ntmps40
  go_wp2_with (first | (go_at_call 61; refine (frame_Encode.calls k a0 a1 a2 _ _ l3 r1 0 _ (Kd.C_below HC.out (below_alloc (Below.refl _ _) _)) hc3 hf).mono ?_; rintro e_ w1 ⟨v0, rfl, ho, hb⟩; have HB := Aside0.mk (below_step (below_alloc (Below.refl w.heap.size w) _) hb); have HI1 := Aside0.mk (HI.out.below HB.out); clear hb; obtain ⟨A0, c0, rfl, hc0, hr0⟩ := Kd.R_reads ho; have HR0 := Aside0.mk hr0; clear ho hr0; have hcell := blk_cell HI1.out.1 0; clear HI HC) | (at_builtin; refine Gr.append (Value.int .u8) 0 (h1 := u8one) rfl (.tmp 22) (.tmp 23) 22 5 (.int .u8 0) 1 rfl Try.underlying22 info5 rfl (by decide) v l r1 _ _ _ rfl rfl HI1.out.2.1 HR0.out (by omega) ?_; intro v1 w2 hG hgr hat; have HT := Aside0.mk (HI1.out.turn hG hgr hat); have hb2 := blk_grown HI1.out.1 hgr (fun e => HI1.out.2.2 e.symm); have hcell2 : w2.cell? ⟨g, 0, none⟩ = some v := (blk_cell hb2 0).trans rfl; have hfr2 := blk_frozen hb2 0; obtain ⟨A1, n1, c1, ev1⟩ : ∃ A1 n1 c1, v1 = .slice A1 n1 c1 := (by obtain ⟨A1, c1, ev1, _⟩ := hG.reads 0; exact ⟨_, _, _, ev1⟩); subst ev1; clear hcell hgr hb2 hG))
  go_ret
  refine ⟨rfl, _, HT.out.1, (Keeps.of_below HB.out _).then_ HT.out.2 (fun i hi => .inl hi), ?_⟩
  rcases hat with e | ⟨b, e, hb⟩
  · exact .inl e
  · exact .inr ⟨b, e, Nat.le_trans HB.out.size hb⟩
set_option maxHeartbeats 4000000 in
set_option maxRecDepth 100000 in
theorem outlet_Push.bad (k : Nat) (w : World) (p : Option Addr) (a0 a1 a2 : Int) (A3 : Option Addr) (c3 : Nat) (l3 r1 : List Int) (r2 : Int) (hr3 : Kd.C (Kd.int .u8) w A3 l3.length l3) (hc3 : l3.length ≤ c3) (hf : frame_Encode.f k a0 a1 a2 l3 = some (r1, r2)) (hp : p = none ∨ r2 ≠ 0) :
    Calls Try.prog 40 #[.pointer p, .agg #[.int .i64 a0, .int .i64 a1, .int .i64 a2, .slice A3 l3.length c3]] w fun e w' => e = .returned (.int .i64 1) ∧ Below w.heap.size w w' := by
  have hu67 := Try.underlying67
  have HC := Aside0.mk hr3
  clear hr3
  cases p with
  | none =>
    go_enter Try.func40, Try.ntmps40
    go_wp2_with (first | (go_at_call 61; refine (frame_Encode.calls k a0 a1 a2 _ _ l3 r1 r2 _ (Kd.C_below HC.out (below_alloc (Below.refl _ _) _)) hc3 hf).mono ?_; rintro e_ w1 ⟨v0, rfl, ho, hb⟩; have HB := Aside0.mk (below_step (below_alloc (Below.refl w.heap.size w) _) hb); clear hb ho))
    go_ret
    exact ⟨rfl, HB.out⟩
  | some p =>
    have h2 : r2 ≠ 0 := by rcases hp with hp | hp; cases hp; exact hp
    have hb0 : (r2 == 0) = false := beq_eq_false_iff_ne.mpr h2
    have hb1 : (r2 != 0) = true := bne_iff_ne.mpr h2
    clear hp h2
    go_enter Try.func40, Try.ntmps40
    go_wp2_with (first | (go_at_call 61; refine (frame_Encode.calls k a0 a1 a2 _ _ l3 r1 r2 _ (Kd.C_below HC.out (below_alloc (Below.refl _ _) _)) hc3 hf).mono ?_; rintro e_ w1 ⟨v0, rfl, ho, hb⟩; have HB := Aside0.mk (below_step (below_alloc (Below.refl w.heap.size w) _) hb); clear hb ho))
    go_ret
    exact ⟨rfl, HB.out⟩
theorem cut_own (A : Option Addr) (n c kk : Nat) : (Value.slice (if n = kk then A else Option.map (fun x => x.add kk) A) (n - kk) (n - kk)).ownBlock = (Value.slice A n c).ownBlock := by
  cases A with
  | none => split <;> simp [Value.ownBlock]
  | some a => split <;> simp [Value.ownBlock, add_blk]
/-- The row's first kk are gone. -/
theorem IsO.cut {w : World} {g : Nat} {A A' : Option Addr} {c : Nat} {l : List Int} (h : IsO w g (.slice A l.length c) l) (kk : Nat) (hk : kk ≤ l.length) (hA : (if l.length = kk then A else Option.map (fun x => x.add kk) A) = A') :
    IsO (w.setCell ⟨g, 0, none⟩ (.slice A' (l.length - kk) (l.length - kk))) g (.slice A' (l.length - kk) (l.length - kk)) (l.drop kk) ∧
    Keeps w (w.setCell ⟨g, 0, none⟩ (.slice A' (l.length - kk) (l.length - kk))) (Foot g (.slice A l.length c)) ∧
    (Value.slice A' (l.length - kk) (l.length - kk)).ownBlock = (Value.slice A l.length c).ownBlock := by
  have ho := cut_own A l.length c kk
  obtain ⟨A2, c2, e2, h2, hr, _⟩ := h.reads
  obtain ⟨rfl, rfl⟩ : A = A2 ∧ c = c2 := by injection e2 with h1 _ h3; exact ⟨h1, h3⟩
  clear e2
  have hl : (l.drop kk).length = l.length - kk := List.length_drop
  have hd := Kd.C_drop hr hk (Nat.le_refl _)
  rw [hl] at hd
  simp only [show (Kd.int .u8).sz = 1 from rfl, Nat.mul_one] at hd
  have h0 : A = none → l.length = 0 := fun e => by
    rcases Nat.eq_zero_or_pos l.length with h0 | h0
    · exact h0
    · obtain ⟨ad, e1, _⟩ := hr.2.2 h0
      rw [e] at e1; cases e1
  rw [hA] at ho hd
  have hne := h.2.2
  rw [← ho] at hne
  refine ⟨⟨blk_put h.1 0 _ rfl, ?_, hne⟩, Keeps.set (Keeps.refl w _) (.inl (.inl rfl)) 0 _, ho⟩
  refine Gr.keeps (S := One g) (w := w) (.inl ⟨A', by rw [hl], ?_, by rw [hl]; exact hd, ?_⟩) (Keeps.set (S := One g) (g := g) (Keeps.refl w (One g)) (.inl (rfl : g = g)) 0 _) (fun k e hk2 => hne (by rw [e, show k = g from hk2]))
  · intro e
    rw [hl]
    have : A = none := by
      subst hA
      split at e
      · exact e
      · cases A with
        | none => rfl
        | some a => simp at e
    have := h0 this
    omega
  · intro k hk3
    rw [ho] at hk3
    exact h.2.1.lt k hk3
set_option maxHeartbeats 4000000 in
set_option maxRecDepth 100000 in
theorem outlet_Drain.at_ (w : World) (g : Nat) (v : Value) (l : List Int) (n m : Int) (kk : Nat) (h : IsO w g v l) (hl : l.length < 140737488355328) (hk : kk ≤ l.length) (hm : (if (l.length : Int) < n then (l.length : Int) else n) = m) (hn : (if 0 < m then m else 0) = (kk : Int)) :
    Calls Try.prog 36 #[.pointer (some ⟨g, 0, none⟩), .int .i64 n] w fun e w' => ∃ v0 v', e = .returned v0 ∧ Kd.R (Kd.int .u8) 5 w' w.heap.size (fun _ => True) v0 (l.take kk) ∧ IsO w' g v' (l.drop kk) ∧ Keeps w w' (Foot g v) ∧ v'.ownBlock = v.ownBlock := by
  have HI := Aside0.mk h
  clear h
  obtain ⟨A, c, rfl, hc, hr, hcell⟩ := HI.out.reads
  have HR := Aside0.mk hr
  clear hr
  have hlt : (l.take kk).length = kk := by rw [List.length_take, Nat.min_eq_left hk]
  have hcl : l.length < 140737488355328 → Calls Try.prog 90 #[.slice A kk c] w fun e w' => ∃ v0_ : Value, e = .returned (v0_) ∧ Kd.R (Kd.int .u8) 5 w' w.heap.size (fun _ => True) v0_ (l.take kk) ∧ Below w.heap.size w w' := by
    intro hl
    have h := slices_Clone_byte_byte.calls A c (l.take kk) (l.take kk) w (Kd.C_take HR.out hk) (by omega) (by unfold slices_Clone_byte_byte.f; rw [if_pos (by omega)])
    rwa [hlt] at h
  replace hcl := hcl hl
  clear hlt
  go_enter Try.func36, Try.ntmps36
  go_wp2_with (first | (go_at_call 90; refine hcl.mono ?_; rintro e_ w1 ⟨v0, rfl, ho, hb⟩; have HO := Aside0.mk ho; have HB := Aside0.mk hb; have HI1 := Aside0.mk (HI.out.below hb); clear hb ho hcl; obtain ⟨A0, n0, c0, ev0⟩ : ∃ A0 n0 c0, v0 = .slice A0 n0 c0 := (by obtain ⟨A0, c0, ev0, _⟩ := Kd.R_reads HO.out; exact ⟨_, _, _, ev0⟩); subst ev0; have hcell1 : w1.cell? ⟨g, 0, none⟩ = some (.slice A l.length c) := (blk_cell HI1.out.1 0).trans rfl; have hfr1 := blk_frozen HI1.out.1 0; clear hcell HI HR))
  obtain ⟨A', hA⟩ : ∃ A', (if l.length = kk then A else Option.map (fun x => x.add kk) A) = A' := ⟨_, rfl⟩
  go_region
  go_wp2
  go_ret
  exact ⟨_, _, rfl, Kd.R_drew (Kd.R_set HO.out HI1.out.1 (by decide) 0 _), (HI1.out.cut kk hk hA).1, ((Keeps.of_below HB.out _).then_ (HI1.out.cut kk hk hA).2.1 (fun i hi => .inl hi)).drew, (HI1.out.cut kk hk hA).2.2⟩
theorem outlet_Drain.is (w : World) (g : Nat) (v : Value) (l : List Int) (n : Int) (h : IsO w g v l) (hl : l.length < 140737488355328) :
    Calls Try.prog 36 #[.pointer (some ⟨g, 0, none⟩), .int .i64 n] w fun e w' => ∃ v0 v', e = .returned v0 ∧ Kd.R (Kd.int .u8) 5 w' w.heap.size (fun _ => True) v0 (l.take n.toNat) ∧ IsO w' g v' (l.drop n.toNat) ∧ Keeps w w' (Foot g v) ∧ v'.ownBlock = v.ownBlock := by
  have key : ∀ kk : Nat, kk = min n.toNat l.length → Calls Try.prog 36 #[.pointer (some ⟨g, 0, none⟩), .int .i64 n] w fun e w' => ∃ v0 v', e = .returned v0 ∧ Kd.R (Kd.int .u8) 5 w' w.heap.size (fun _ => True) v0 (l.take kk) ∧ IsO w' g v' (l.drop kk) ∧ Keeps w w' (Foot g v) ∧ v'.ownBlock = v.ownBlock := by
    intro kk hk
    exact outlet_Drain.at_ w g v l n _ kk h hl (by omega) rfl (by split <;> split <;> omega)
  have h1 := key _ rfl
  rcases Nat.le_total n.toNat l.length with hle | hle
  · rwa [Nat.min_eq_left hle] at h1
  · rw [Nat.min_eq_right hle] at h1
    rw [List.take_of_length_le hle, List.drop_eq_nil_of_le hle]
    rwa [List.take_length, List.drop_length] at h1
theorem outlet_Drain.none_ (w : World) (n : Int) : Calls Try.prog 36 #[.pointer none, .int .i64 n] w fun e w' => e = .returned (.slice none 0 0) ∧ ∃ nd, w' = w.drewN nd := by
  go_enter Try.func36, Try.ntmps36
  go_wp2
  go_ret
  exact ⟨rfl, 0, rfl⟩
set_option maxHeartbeats 4000000 in
set_option maxRecDepth 100000 in
theorem r14_Drain.at_ (w : World) (A A' : Option Addr) (c : Nat) (l : List Int) (n : Int) (kk : Nat) (hc : l.length ≤ c) (hr : Kd.C (Kd.int .u8) w A l.length l) (hk : kk ≤ l.length) (hA : (if c = kk then A else Option.map (fun x => x.add kk) A) = A')
    (hn : (n < 0 ∧ kk = 0) ∨ (0 ≤ n ∧ n ≤ l.length ∧ n = kk) ∨ (l.length < n ∧ kk = l.length)) :
    Calls Try.prog 37 #[.slice A l.length c, .int .i64 n] w fun e w' => e = .returned (.tuple #[.slice A kk c, .slice A' (l.length - kk) (c - kk)]) ∧ ∃ nd, w' = w.drewN nd := by
  rcases hn with ⟨h1, rfl⟩ | ⟨h0, h1, rfl⟩ | ⟨h1, rfl⟩
  · have b1 : decide (n < 0) = true := decide_eq_true h1
    have b2 : decide ((l.length : Int) < 0) = false := decide_eq_false (by omega)
    go_enter Try.func37, Try.ntmps37
    go_wp2
    go_region
    go_wp2
    go_ret2
    exact ⟨by first | rfl | (simp_all; done) | (simp only [← hA]; split <;> first | rfl | (cases A <;> simp [Addr.add])), 1, rfl⟩
  · have b1 : decide ((kk : Int) < 0) = false := decide_eq_false (by omega)
    have b2 : decide ((l.length : Int) < (kk : Int)) = false := decide_eq_false (by omega)
    go_enter Try.func37, Try.ntmps37
    go_wp2
    go_region
    go_wp2
    go_ret2
    exact ⟨by first | rfl | (simp_all; done) | (simp only [← hA]; split <;> first | rfl | (cases A <;> simp [Addr.add])), 1, rfl⟩
  · have b1 : decide (n < 0) = false := decide_eq_false (by omega)
    have b2 : decide ((l.length : Int) < n) = true := decide_eq_true h1
    go_enter Try.func37, Try.ntmps37
    go_wp2
    go_region
    go_wp2
    go_ret2
    exact ⟨by first | rfl | (simp_all; done) | (simp only [← hA]; split <;> first | rfl | (cases A <;> simp [Addr.add])), 1, rfl⟩
theorem C_nil (w : World) (A : Option Addr) : Kd.C (Kd.int .u8) w A 0 [] := ⟨rfl, by decide, fun h => absurd h (Nat.lt_irrefl 0)⟩
set_option maxHeartbeats 4000000 in
set_option maxRecDepth 100000 in
theorem r14_Push.ok (k : Nat) (w : World) (A : Option Addr) (c : Nat) (l : List Int) (a0 a1 a2 : Int) (A3 : Option Addr) (c3 : Nat) (l3 r1 : List Int) (hr : Kd.C (Kd.int .u8) w A l.length l) (hc : l.length ≤ c) (hr3 : Kd.C (Kd.int .u8) w A3 l3.length l3) (hc3 : l3.length ≤ c3) (hf : gantletref02_Encode.f k a0 a1 a2 l3 = some (r1, 0)) (hl : l.length + r1.length ≤ 140737488355328) :
    Calls Try.prog 41 #[.slice A l.length c, .agg #[.int .i64 a0, .int .i64 a1, .int .i64 a2, .slice A3 l3.length c3]] w fun e w' => ∃ v', e = .returned (.tuple #[v', .int .i64 0]) ∧ Gr (Value.int .u8) u8one 5 w' v' (l ++ r1) ∧ Below w.heap.size w w' ∧ (∀ k, v'.ownBlock = some k → w.heap.size ≤ k) := by
  have hu67 := Try.underlying67
  have HA := Aside0.mk hr
  have HC := Aside0.mk hr3
  clear hr hr3
  go_enter Try.func41, Try.ntmps41
  go_wp2_with (first | (go_at_call 78; refine (gantletref02_Encode.calls k a0 a1 a2 _ _ l3 r1 0 _ (Kd.C_below HC.out (below_alloc (Below.refl _ _) _)) hc3 hf).mono ?_; rintro e_ w1 ⟨v0, rfl, ho, hb⟩; have HB := Aside0.mk (below_step (below_alloc (Below.refl w.heap.size w) _) hb); clear hb; obtain ⟨A0, c0, rfl, hc0, hr0⟩ := Kd.R_reads ho; have HR0 := Aside0.mk hr0; have HA1 := Aside0.mk (Kd.C_below HA.out HB.out); clear ho hr0 HA HC) | (at_builtin; refine Gr.append (Value.int .u8) 0 (h1 := u8one) rfl (.tmp 16) (.tmp 17) 22 5 (.int .u8 0) 1 rfl Try.underlying22 info5 rfl (by decide) (.slice (some ⟨w1.heap.size, 0, none⟩) 0 0) [] l _ _ _ rfl rfl ?gO ?gR (by simp; omega) ?_; (case gO => exact .inl ⟨some ⟨w1.heap.size, 0, none⟩, rfl, by simp, C_nil _ _, fun k hk => by have h_ : some w1.heap.size = some k := hk; cases h_; simp⟩); (case gR => exact Kd.C_below HA1.out (below_alloc (Below.refl _ _) _)); intro v2 w2 hG2 hg2 hat2; have hb2 : Below w1.heap.size w1 w2 := Below.grown (below_alloc (Below.refl _ _) _) hg2 (by simp) (fun k_ e_ => by simp [Value.ownBlock] at e_; omega); have HO2 : Aside0 (∀ k, v2.ownBlock = some k → w1.heap.size ≤ k) := ⟨by intro k hk; rcases hat2 with e | ⟨b, e, hb⟩; (rw [e] at hk; simp [Value.ownBlock] at hk; omega); (rw [e] at hk; cases hk; simp at hb; omega)⟩; have HG2 := Aside0.mk hG2; have HR2 := Aside0.mk (Kd.C_below HR0.out hb2); have HB2 := Aside0.mk (below_step HB.out hb2); clear hG2 hg2 hat2 HR0 HA1) | (at_builtin; refine Gr.append (Value.int .u8) 0 (h1 := u8one) rfl (.tmp 18) (.tmp 19) 22 5 (.int .u8 0) 1 rfl Try.underlying22 info5 rfl (by decide) v2 l r1 _ _ _ rfl rfl HG2.out HR2.out (by omega) ?_; intro v3 w3 hG3 hg3 hat3; have HG3 := Aside0.mk hG3; have HB3 : Aside0 (Below w.heap.size w w3) := ⟨Below.grown HB2.out hg3 HB2.out.size (fun k_ e_ => Nat.le_trans HB.out.size (HO2.out k_ e_))⟩; have HO3 : Aside0 (∀ k, v3.ownBlock = some k → w.heap.size ≤ k) := ⟨by intro k hk; rcases hat3 with e | ⟨b, e, hb⟩; exact Nat.le_trans HB.out.size (HO2.out k (by rw [← e]; exact hk)); (rw [e] at hk; cases hk; exact Nat.le_trans HB2.out.size hb)⟩; clear hG3 hg3 hat3))
  go_ret2
  exact ⟨_, rfl, HG3.out, HB3.out, HO3.out⟩
set_option maxHeartbeats 4000000 in
set_option maxRecDepth 100000 in
theorem r14_Push.bad (k : Nat) (w : World) (v : Value) (a0 a1 a2 : Int) (A3 : Option Addr) (c3 : Nat) (l3 r1 : List Int) (r2 : Int) (hr3 : Kd.C (Kd.int .u8) w A3 l3.length l3) (hc3 : l3.length ≤ c3) (hf : gantletref02_Encode.f k a0 a1 a2 l3 = some (r1, r2)) (h2 : r2 ≠ 0) :
    Calls Try.prog 41 #[v, .agg #[.int .i64 a0, .int .i64 a1, .int .i64 a2, .slice A3 l3.length c3]] w fun e w' => e = .returned (.tuple #[v, .int .i64 1]) ∧ Below w.heap.size w w' := by
  have hu67 := Try.underlying67
  have HC := Aside0.mk hr3
  clear hr3
  have hb0 : (r2 == 0) = false := beq_eq_false_iff_ne.mpr h2
  have hb1 : (r2 != 0) = true := bne_iff_ne.mpr h2
  clear h2
  go_enter Try.func41, Try.ntmps41
  go_wp2_with (first | (go_at_call 78; refine (gantletref02_Encode.calls k a0 a1 a2 _ _ l3 r1 r2 _ (Kd.C_below HC.out (below_alloc (Below.refl _ _) _)) hc3 hf).mono ?_; rintro e_ w1 ⟨v0, rfl, ho, hb⟩; have HB := Aside0.mk (below_step (below_alloc (Below.refl w.heap.size w) _) hb); clear hb ho))
  go_ret2
  exact ⟨rfl, HB.out⟩
end Go.Proofs.Ytbmnplojpeabmaa.QO

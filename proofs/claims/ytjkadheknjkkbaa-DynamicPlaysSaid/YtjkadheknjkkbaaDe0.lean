/-
  DYNAMIC: a table.
  Conditions: none of its own; lemmas that the claim's row rests on.
-/
import Derived.Test.YtjkadheknjkkbaaQD1
import Derived.Test.YtjkadheknjkkbaaObj
import Derived.Test.YtjkadheknjkkbaaGrow
import Derived.Test.YtjkadheknjkkbaaRowF
import Derived.WalkKit
namespace Go.Proofs.Ytjkadheknjkkbaa.De
open Go.RowKit Go.Proofs.YtjkadheknjkkbaaW.PrintWords Go.Proofs.YtjkadheknjkkbaaW.PrintLast Go.Proofs.YtjkadheknjkkbaaW.PrintMore
attribute [local go_sem] max2_int min2_int max_two min_two max_three min_three max_four min_four
set_option linter.unusedVariables false
set_option linter.unusedSimpArgs false
open Go.Proofs.Ytjkadheknjkkbaa.Ob Go.Proofs.Ytjkadheknjkkbaa.QD
theorem store_step {P : Program} {ops : Array Oper} {o : Oper} {a : Act} {Q : Exit → Act → World → Prop} {Kc : Act → World → Prop} {W w1 : World} (hw : Region.wanted o (yielded ops a.tmps) = true) (hN : o.dst = none) (hrun : (execOp a.eval o).run P W = .ok .skip w1) (h : Kc a w1) :
    if Region.wanted o (yielded ops a.tmps) = true then Oper.wp P o a W Kc Q else Kc (a.put none undef) W := by
  rw [if_pos hw]
  unfold Oper.wp
  rw [hrun]
  show Kc (a.put o.dst undef) w1
  rw [hN]
  exact h
theorem last_store {P : Program} {ops : Array Oper} {Q : Exit → Act → World → Prop} {md : Region.Mode} {S : World → Prop} {ds : List Nat} {i : Nat} {oi : Oper} {fuel : Nat} {l : Array Bool} {a : Act} {w w1 : World} (l' : Array Bool) (hi : ops[i]? = some oi) (hN : oi.dst = none) (hc : readyB md ops l l' i = true) (hd : i ∈ ds)
    (hw : Region.wanted oi (yielded ops a.tmps) = true) (hrun : (execOp a.eval oi).run P w = .ok .skip w1) (h : wpAnyLast P md ops Q S ds fuel l' a w1) : wpAnyLast P md ops Q S ds (fuel + 1) l a w :=
  last_ (N := none) l' hi hN hc hd (fun K hK => store_step hw hN hrun (hK.out _ _ h))
/-- A row of fields of one's own. -/
def RY (W : World) (v : Value) (l : List S78) : Prop := OwnRow (fun (x : S78) cs => cs = [.string x.f0, .string x.f1]) 78 2 W 0 v l
section
variable {w w1 : World} {v : Value} {l : List S78} {S : Nat → Prop}
theorem RY.nil (w : World) : RY w (.slice none 0 0) [] := OwnRow.none_ _ _ _ _ _
theorem RY.lt (h : RY w v l) : ∀ k, v.ownBlock = some k → k < w.heap.size := by
  obtain ⟨inner, ho, _⟩ := h
  exact own_lt ho
theorem RY.keeps (h : RY w v l) (hk : Keeps w w1 S) (hn : ∀ k, v.ownBlock = some k → ¬ S k) : RY w1 v l := by
  obtain ⟨inner, ho, hr⟩ := h
  exact ⟨inner, own_move ho (fun k hk1 => hk.block k (own_lt ho k hk1) (hn k hk1)), hr⟩
theorem RY.below (h : RY w v l) (hb : Below w.heap.size w w1) : RY w1 v l := h.keeps (Keeps.of_below hb (fun _ => False)) (fun _ _ h => h)
theorem RY.reads (h : RY w v l) : ∃ A c, v = .slice A l.length c ∧ l.length ≤ c ∧ Kd.C k78 w A l.length l := by
  obtain ⟨A, c, he, hl, hr⟩ := OwnRow.reads h
  exact ⟨A, c, he, hl, hr.imp_ (Below.refl _ _) (fun p c hp => by subst hp; exact k78_mk _ p)⟩
theorem RY.of_R {base : Nat} {ok : Nat → Prop} (h : Kd.R k78 78 w base ok v l) : RY w v l := OwnRow.lower (h.2.imp_ (fun _ _ hp => k78_openM hp)) (Nat.zero_le _)
end
theorem sz78 : (Try.prog.info? 78).map (·.size) = some 2 := by kernel_rfl
theorem info78c : (Try.prog.info? 78).map (fun i => (i.zero, i.size, i.bytes)) = some (some (.agg #[.string ⟨#[]⟩, .string ⟨#[]⟩]), 2, 32) := by kernel_rfl
theorem two_sets {W : World} {b t : Nat} {z0 z1 y0 y1 : Value} (hz : W.heap[b]? = some (.cells #[z0, z1] t (0, 0))) :
    ((W.setCell ⟨b, 0, none⟩ y0).setCell ⟨b, 1, none⟩ y1).heap[b]? = some (.cells #[y0, y1] t (0, 0)) ∧ Keeps W ((W.setCell ⟨b, 0, none⟩ y0).setCell ⟨b, 1, none⟩ y1) (One b) :=
  ⟨(blk_put (blk_put hz 0 y0 rfl) 1 y1 rfl).trans rfl, ((Keeps.refl W (One b)).set (.inl rfl) 0 y0).set (.inl rfl) 1 y1⟩
/-- A table in block g. -/
def IsY (w : World) (g : Nat) (bound most : Int) (v : Value) (l : List S78) (size : Int) : Prop := w.heap[g]? = some (.cells #[v, .int .i64 size, .int .i64 bound, .int .i64 most] 136 (0, 0)) ∧ RY w v l ∧ v.ownBlock ≠ some g
/-- The document's. -/
def IsV (w : World) (g : Nat) (bound most : Int) (v : Value) (l : List S78) : Prop := w.heap[g]? = some (.cells #[v, .int .i64 bound, .int .i64 most] 138 (0, 0)) ∧ RY w v l ∧ v.ownBlock ≠ some g
/-- What its methods may write: its block, its row. -/
def FootY (g : Nat) (v : Value) : Nat → Prop := fun k => k = g ∨ v.ownBlock = some k
section
variable {w w1 : World} {g : Nat} {bound most size : Int} {v v' : Value} {l l' : List S78} {S : Nat → Prop}
theorem IsY.keeps (h : IsY w g bound most v l size) (hk : Keeps w w1 S) (hn : ∀ k, FootY g v k → ¬ S k) : IsY w1 g bound most v l size :=
  ⟨blk_keeps h.1 hk (hn g (.inl rfl)), h.2.1.keeps hk (fun k e => hn k (.inr e)), h.2.2⟩
theorem IsY.below (h : IsY w g bound most v l size) (hb : Below w.heap.size w w1) : IsY w1 g bound most v l size := h.keeps (Keeps.of_below hb (fun _ => False)) (fun _ _ h => h)
theorem IsY.foot (h : IsY w g bound most v l size) : ∀ k, FootY g v k → k < w.heap.size := fun k hk => by
  rcases hk with rfl | hk
  · exact blk_lt h.1
  · exact h.2.1.lt k hk
theorem IsY.set0 (h : IsY w g bound most v l size) (hG : RY w v' l') (hne : v'.ownBlock ≠ some g) : IsY (w.setCell ⟨g, 0, none⟩ v') g bound most v' l' size :=
  ⟨(blk_put h.1 0 _ rfl).trans rfl, hG.keeps (Keeps.set (S := One g) (Keeps.refl w _) (.inl rfl) 0 v') (fun k e hk => hne (by rw [e, show k = g from hk])), hne⟩
theorem IsY.set1 (h : IsY w g bound most v l size) (s : Int) : IsY (w.setCell ⟨g, 1, none⟩ (.int .i64 s)) g bound most v l s :=
  ⟨(blk_put h.1 1 _ rfl).trans rfl, h.2.1.keeps (Keeps.set (S := One g) (Keeps.refl w _) (.inl rfl) 1 _) (fun k e hk => h.2.2 (by rw [e, show k = g from hk])), h.2.2⟩
theorem IsY.set3 (h : IsY w g bound most v l size) (m : Int) : IsY (w.setCell ⟨g, 3, none⟩ (.int .i64 m)) g bound m v l size :=
  ⟨(blk_put h.1 3 _ rfl).trans rfl, h.2.1.keeps (Keeps.set (S := One g) (Keeps.refl w _) (.inl rfl) 3 _) (fun k e hk => h.2.2 (by rw [e, show k = g from hk])), h.2.2⟩
theorem IsV.keeps (h : IsV w g bound most v l) (hk : Keeps w w1 S) (hn : ∀ k, FootY g v k → ¬ S k) : IsV w1 g bound most v l :=
  ⟨blk_keeps h.1 hk (hn g (.inl rfl)), h.2.1.keeps hk (fun k e => hn k (.inr e)), h.2.2⟩
theorem IsV.below (h : IsV w g bound most v l) (hb : Below w.heap.size w w1) : IsV w1 g bound most v l := h.keeps (Keeps.of_below hb (fun _ => False)) (fun _ _ h => h)
theorem IsV.foot (h : IsV w g bound most v l) : ∀ k, FootY g v k → k < w.heap.size := fun k hk => by
  rcases hk with rfl | hk
  · exact blk_lt h.1
  · exact h.2.1.lt k hk
theorem IsV.set0 (h : IsV w g bound most v l) (hG : RY w v' l') (hne : v'.ownBlock ≠ some g) : IsV (w.setCell ⟨g, 0, none⟩ v') g bound most v' l' :=
  ⟨(blk_put h.1 0 _ rfl).trans rfl, hG.keeps (Keeps.set (S := One g) (Keeps.refl w _) (.inl rfl) 0 v') (fun k e hk => hne (by rw [e, show k = g from hk])), hne⟩
theorem IsV.set2 (h : IsV w g bound most v l) (m : Int) : IsV (w.setCell ⟨g, 2, none⟩ (.int .i64 m)) g bound m v l :=
  ⟨(blk_put h.1 2 _ rfl).trans rfl, h.2.1.keeps (Keeps.set (S := One g) (Keeps.refl w _) (.inl rfl) 2 _) (fun k e hk => h.2.2 (by rw [e, show k = g from hk])), h.2.2⟩
end
theorem dynamic_New.ok (n : Int) (w : World) (h1 : 0 ≤ n) (h2 : n ≤ 4096) : Calls Try.prog 48 #[.int .i64 n] w fun e w' => ∃ g, e = .returned (.tuple #[.pointer (some ⟨g, 0, none⟩), .int .i64 0]) ∧ IsY w' g n n (.slice none 0 0) [] 0 ∧ w.heap.size ≤ g ∧ Below w.heap.size w w' := by
  have b1 : decide (n < 0) = false := decide_eq_false (by omega)
  have b2 : decide (4096 < n) = false := decide_eq_false (by omega)
  go_enter Try.func48, Try.ntmps48
  go_wp2
  go_ret2
  exact ⟨_, rfl, ⟨blk_new _ _, RY.nil _, by simp [Value.ownBlock]⟩, Nat.le_refl _, below_alloc (Below.refl _ _) _⟩
theorem dynamic_New.bad (n : Int) (w : World) (h : n < 0 ∨ 4096 < n) : Calls Try.prog 48 #[.int .i64 n] w fun e w' => e = .returned (.tuple #[.pointer none, .int .i64 1]) ∧ w' = w := by
  by_cases h1 : n < 0
  · have b1 : decide (n < 0) = true := decide_eq_true h1
    go_enter Try.func48, Try.ntmps48
    go_wp2
    go_ret2
    exact ⟨rfl, rfl⟩
  · have b1 : decide (n < 0) = false := decide_eq_false h1
    have b2 : decide (4096 < n) = true := decide_eq_true (by omega)
    go_enter Try.func48, Try.ntmps48
    go_wp2
    go_ret2
    exact ⟨rfl, rfl⟩
theorem r07_Begin.is (n : Int) (w : World) : Calls Try.prog 49 #[.int .i64 n] w fun e w' => ∃ g, e = .returned (.pointer (some ⟨g, 0, none⟩)) ∧ IsV w' g n n (.slice none 0 0) [] ∧ w.heap.size ≤ g ∧ Below w.heap.size w w' := by
  go_enter Try.func49, Try.ntmps49
  go_wp2
  go_ret
  exact ⟨_, rfl, ⟨blk_new _ _, RY.nil _, by simp [Value.ownBlock]⟩, Nat.le_refl _, below_alloc (Below.refl _ _) _⟩
section
variable {w : World} {g : Nat} {bound most size : Int} {v : Value} {l : List S78}
theorem dynamic_Len.is (h : IsY w g bound most v l size) : Calls Try.prog 59 #[.pointer (some ⟨g, 0, none⟩)] w fun e w' => e = .returned (.int .i64 l.length) ∧ w' = w := by
  obtain ⟨A, c, rfl, _, _⟩ := h.2.1.reads
  have hc : w.cell? ⟨g, 0, none⟩ = some (.slice A l.length c) := (blk_cell h.1 0).trans rfl
  go_enter Try.func59, Try.ntmps59
  go_wp2
  go_ret
  exact ⟨rfl, rfl⟩
theorem dynamic_Len.none_ (w : World) : Calls Try.prog 59 #[.pointer none] w fun e w' => e = .returned (.int .i64 0) ∧ w' = w := by
  go_enter Try.func59, Try.ntmps59
  go_wp2
  go_ret
  exact ⟨rfl, rfl⟩
theorem dynamic_TSize.is (h : IsY w g bound most v l size) : Calls Try.prog 60 #[.pointer (some ⟨g, 0, none⟩)] w fun e w' => e = .returned (.int .i64 size) ∧ w' = w := by
  have hc : w.cell? ⟨g, 1, none⟩ = some (.int .i64 size) := (blk_cell h.1 1).trans rfl
  go_enter Try.func60, Try.ntmps60
  go_wp2
  go_ret
  exact ⟨rfl, rfl⟩
theorem dynamic_TSize.none_ (w : World) : Calls Try.prog 60 #[.pointer none] w fun e w' => e = .returned (.int .i64 0) ∧ w' = w := by
  go_enter Try.func60, Try.ntmps60
  go_wp2
  go_ret
  exact ⟨rfl, rfl⟩
theorem dynamic_Most.is (h : IsY w g bound most v l size) : Calls Try.prog 61 #[.pointer (some ⟨g, 0, none⟩)] w fun e w' => e = .returned (.int .i64 most) ∧ w' = w := by
  have hc : w.cell? ⟨g, 3, none⟩ = some (.int .i64 most) := (blk_cell h.1 3).trans rfl
  go_enter Try.func61, Try.ntmps61
  go_wp2
  go_ret
  exact ⟨rfl, rfl⟩
theorem dynamic_Most.none_ (w : World) : Calls Try.prog 61 #[.pointer none] w fun e w' => e = .returned (.int .i64 0) ∧ w' = w := by
  go_enter Try.func61, Try.ntmps61
  go_wp2
  go_ret
  exact ⟨rfl, rfl⟩
end
/-- A field's size. -/
def szF (x : S78) : Nat := x.f0.size + x.f1.size + 32
theorem dynamic_Size.is (x : S78) (w : World) (h0 : x.f0.size ≤ 100000) (h1 : x.f1.size ≤ 100000) : Calls Try.prog 56 #[.agg #[.string x.f0, .string x.f1]] w fun e w' => e = .returned (.int .i64 (szF x : Int)) ∧ Below w.heap.size w w' := by
  refine (dynamic_Size.calls x.f0 x.f1 (szF x : Int) w (by unfold dynamic_Size.f szF wrap64; simp only [Option.some.injEq]; push_cast; omega)).mono ?_
  rintro e w' ⟨rfl, hd⟩
  exact ⟨rfl, hd⟩
theorem r07_Size.is (x : S78) (w : World) (h0 : x.f0.size ≤ 100000) (h1 : x.f1.size ≤ 100000) : Calls Try.prog 57 #[.agg #[.string x.f0, .string x.f1]] w fun e w' => e = .returned (.int .i64 (szF x : Int)) ∧ Below w.heap.size w w' := by
  refine (gantletref07_Size.calls x.f0 x.f1 (szF x : Int) w (by unfold gantletref07_Size.f szF wrap64; simp only [Option.some.injEq]; push_cast; omega)).mono ?_
  rintro e w' ⟨rfl, hd⟩
  exact ⟨rfl, hd⟩
set_option maxHeartbeats 4000000 in
set_option maxRecDepth 100000 in
/-- A copy of a row of fields. -/
theorem clone78 (A : Option Addr) (c : Nat) (l : List S78) (w : World) (hC : Kd.C k78 w A l.length l) (hc : l.length ≤ c) (hl : l.length ≤ 100000) :
    Calls Try.prog 99 #[.slice A l.length c] w fun e w' => ∃ v, e = .returned v ∧ RY w' v l ∧ (∀ k, v.ownBlock = some k → w.heap.size ≤ k) ∧ Below w.heap.size w w' := by
  have HC := Aside0.mk hC
  have HL := Aside0.mk hl
  have HB := Aside0.mk (Below.refl w.heap.size w)
  cases A with
  | none =>
    obtain rfl : l = [] := by
      rcases Nat.eq_zero_or_pos l.length with h0 | h0
      · exact List.eq_nil_of_length_eq_zero h0
      · obtain ⟨ad, e, _⟩ := hC.2.2 h0; cases e
    clear hC
    have he : ∀ W : World, (binOp .eql 134 (.slice none 0 c) (.slice none 0 0)).run Try.prog W = .ok (.bool true) W := fun W => Lib.run_eql_slice_nil (P := Try.prog) W 134 78 none 0 c 0 0 Try.underlying134
    go_enter Try.func99, Try.ntmps99
    go_wp2_with fail
    go_ret
    exact ⟨_, rfl, RY.nil _, by simp [Value.ownBlock], Below.refl _ _⟩
  | some ad =>
    clear hC
    have he : ∀ W : World, (binOp .eql 134 (.slice (some ad) l.length c) (.slice none 0 0)).run Try.prog W = .ok (.bool false) W := fun W => Lib.run_eql_slice_nil (P := Try.prog) W 134 78 (some ad) l.length c 0 0 Try.underlying134
    go_enter Try.func99, Try.ntmps99
    go_wp2_with (first
      | ((with_reducible refine gate_dst (N := 5) rfl ?_); refine Kd.R_lit k78 _ 78 ?hg (N := 5) ?hd (xs := ([] : List S78)) (inner := []) (ok := fun _ => True) (okp := fun _ => True) ?hr ?hp (fun _ hk => hk) trivial (Below.refl _ _) (Nat.le_refl _) (by simp) ?_; (case hd => rfl); (case hg => rfl); (case hr => first | (go_simp; done) | (go_simp; rfl)); (case hp => exact Reps.none _ _); intro v1 w1 ho1 hb1 hg1 hn1; clear hg1 hn1; have HO1 := Aside0.mk ho1; have HB1 := Aside0.mk hb1; clear ho1 hb1)
      | ((with_reducible refine gate_builtin (b := .append) (xs := #[.tmp 5, .tmp 6]) rfl ?_); at_builtin; go_loud (refine Kd.R_append_rows k78 (w0 := w) w.heap.size rfl (.tmp 5) (.tmp 6) 134 78 (.agg #[.string ⟨#[]⟩, .string ⟨#[]⟩]) 32 rfl Try.underlying134 info78c rfl (by decide) (by omega) v1 [] l _ _ _ (fun _ => True) (fun _ => False) rfl rfl HO1.out (Kd.C_below HC.out HB1.out) (fun x cs hx => by rw [k78_open hx]; exact k78_mkM _ _ _ x) (fun _ hk => hk.elim) (fun _ _ => trivial) HB1.out (below_size HB1.out) (by have := HL.out; simp only [List.length_nil]; omega) ?_; intro v2 w2 ho2 hb2 hg2 hat2)))
    go_ret
    have h2 : Kd.R k78 78 w2 w.heap.size (fun _ => True) v2 l := by simpa using ho2
    exact ⟨_, rfl, RY.of_R h2, fun k hk => (Kd.R_bound h2).1 k hk |>.2.1, hb2⟩
end Go.Proofs.Ytjkadheknjkkbaa.De

/-
  INTAKE: all frames.
  Conditions: none of its own; lemmas that the claim's row rests on.
-/
import Derived.Test.YtbmnplojpeabmaaIu10
import Derived.Test.YtbmnplojpeabmaaPureChunks
import Derived.WalkKit
namespace Go.Proofs.Ytbmnplojpeabmaa.It
open Go.RowKit Go.Proofs.YtbmnplojpeabmaaW.PrintWords Go.Proofs.YtbmnplojpeabmaaW.PrintLast Go.Proofs.YtbmnplojpeabmaaW.PrintMore
attribute [local go_sem] max2_int min2_int max_two min_two max_three min_three max_four min_four
set_option linter.unusedVariables false
set_option linter.unusedSimpArgs false
open Go.Proofs.Ytbmnplojpeabmaa.Ob Go.Proofs.Ytbmnplojpeabmaa.QI Go.Proofs.Ytbmnplojpeabmaa.FramePure Go.Proofs.Ytbmnplojpeabmaa.WirePure Go.Proofs.Ytbmnplojpeabmaa.IntakePure
theorem fk67_of {W : World} {x0 x1 x2 : Int} {x3 : List Int} {A4 : Option Addr} {c4 : Nat} {okr okp : Nat → Prop} (hc : x3.length ≤ c4) (hF : Kd.F (Kd.int .u8) W okr A4 x3.length x3) (hok : ∀ k, (okr k ∧ k < W.heap.size) → okp k) :
    Kd.FK k67 W okp ⟨x0, x1, x2, x3⟩ [.int .i64 x0, .int .i64 x1, .int .i64 x2, .slice A4 x3.length c4] :=
  Kd.FK_mono (ok := fun k => okr k ∧ k < W.heap.size) (fun W' hW => k67_mk W' ⟨x0, x1, x2, x3⟩ hc (Kd.F_now (Kd.F_step (Kd.F_bound hF) hW))) hok
theorem Mn.refl (w : World) (g : Nat) (v : Value) : Mn w g v w v := ⟨Keeps.refl _ _, fun _ h => h⟩
theorem Mn.trans {w w1 w2 : World} {g : Nat} {v v1 v2 : Value} (h : Mn w g v w1 v1) (k : Mn w1 g v1 w2 v2) : Mn w g v w2 v2 :=
  ⟨h.1.then_ k.1 (fun i hi => by
    rcases hi with rfl | hi
    · exact .inl (.inl rfl)
    · exact .inl (.inr (h.2 i hi))), fun i hi => h.2 i (k.2 i hi)⟩
theorem Mn.below {w w1 w2 : World} {g : Nat} {v v1 : Value} (h : Mn w g v w1 v1) (hb : Below w1.heap.size w1 w2) : Mn w g v w2 v1 := ⟨h.1.below hb, h.2⟩
theorem Mn.grown {w w1 w2 : World} {g : Nat} {v v1 : Value} {row : Option Nat} (h : Mn w g v w1 v1) (hg : w1.grownBy w2 row) (hr : ∀ k, row = some k → w.heap.size ≤ k) : Mn w g v w2 v1 := ⟨h.1.grown hg (fun k hk => .inr (hr k hk)), h.2⟩
theorem nextI_len (most : Int) {l : List Int} {bg : Bool} {ov : Int} (hb : Bytes l) : Bytes (nextI most l bg ov).1 ∧ (nextI most l bg ov).1.length ≤ l.length := by
  unfold nextI
  split
  · exact ⟨hb, Nat.le_refl _⟩
  · split
    · exact ⟨hb, Nat.le_refl _⟩
    · split
      · exact ⟨(fun x hx => by cases hx), Nat.zero_le _⟩
      · split
        · exact ⟨hb.drop _, by show (l.drop _).length ≤ _; rw [List.length_drop]; omega⟩
        · exact ⟨hb, Nat.le_refl _⟩
theorem frs_len (most : Int) : ∀ (k : Nat) {l : List Int} {bg : Bool} {ov : Int}, (frs most k l bg ov).1.length ≤ k
  | 0, l, bg, ov => Nat.le_refl 0
  | k + 1, l, bg, ov => by
    unfold frs
    split
    · exact Nat.zero_le _
    · show (frs most k _ bg _).1.length + 1 ≤ k + 1
      have := frs_len most k (l := (nextI most l bg ov).1) (bg := bg) (ov := (nextI most l bg ov).2)
      omega
section
variable {w : World} {g : Nat} {most ov : Int} {v : Value} {l : List Int} {bg : Bool}
set_option maxHeartbeats 8000000 in
set_option maxRecDepth 100000 in
/-- All that an intake tells. -/
theorem gantletlaw13_frames.is (h : IsT w g most v l bg ov) (hb : Bytes l) (hl : l.length ≤ 100000) (F : List S67 × (List Int × Int) × Int) (hF : frs most 8889 l bg ov = F) :
    Calls Try.prog 76 #[.pointer (some ⟨g, 0, none⟩)] w fun e w' => ∃ vo, e = .returned (.tuple #[vo, .int .i64 F.2.2]) ∧ Kd.N k67 67 w' w.heap.size (fun k => w.heap.size ≤ k) vo F.1 ∧ ∃ v', IsT w' g most v' F.2.1.1 bg F.2.1.2 ∧ Mn w g v w' v' := by
  have hu67 := Try.underlying67
  have HI := Aside0.mk h
  have HBY := Aside0.mk hb
  have HF0 := Aside0.mk hF
  clear h hb hF
  go_enter Try.func76, Try.ntmps76
  go_wp2_with fail
  go_loopg [4, 5] 8890 (fun kq v4 v5 w' => ∃ (i : Nat) (vc : Value) (lc : List Int) (oc : Int) (out : List S67), v5 = .int .i64 (i : Int) ∧ Aside0 (i + kq = 8890 ∧ i ≤ 8889) ∧ Aside0 (IsT w' g most vc lc bg oc) ∧ Aside0 (Mn w g v w' vc) ∧ Aside0 (Kd.N k67 67 w' w.heap.size (fun k => w.heap.size ≤ k) v4 out) ∧ Aside0 (F = (out ++ (frs most (8889 - i) lc bg oc).1, (frs most (8889 - i) lc bg oc).2)) ∧ Aside0 (Bytes lc ∧ lc.length ≤ l.length ∧ out.length ≤ i))
  case atStart => exact ⟨0, v, l, ov, [], rfl, ⟨by omega⟩, HI, ⟨Mn.refl _ _ _⟩, ⟨Kd.N_nil _ _ _ _ _⟩, ⟨by rw [← HF0.out]; rfl⟩, ⟨HBY.out, Nat.le_refl _, Nat.le_refl _⟩⟩
  case round =>
    obtain ⟨i, vc, lc, oc, out, rfl, HK, HC, HM, HN, HF, HL⟩ := hrel
    obtain ⟨Ao, co, ho⟩ := Kd.N_slice HN.out
    subst ho
    by_cases hi : i ≤ 8888
    · have bi : decide ((i : Int) ≤ 8888) = true := decide_eq_true (by omega)
      obtain ⟨k1, hk1⟩ : ∃ m, gk = m + 1 := ⟨gk - 1, by have := HK.out; omega⟩
      subst hk1
      go_wp2_with fail
      have c1_ := intake_Next.is HC.out HL.out.1 (by have := HL.out; omega)
      have hn_ := nextI_len most (l := lc) (bg := bg) (ov := oc) HL.out.1
      obtain ⟨m, hm⟩ : ∃ m, 8889 - i = m + 1 := ⟨8888 - i, by omega⟩
      have hf_ := HF.out
      rw [hm] at hf_
      unfold frs at hf_
      rcases ha : ansI most lc bg oc with ⟨⟨f0, f1, f2, f3⟩, er⟩
      rw [ha] at c1_ hf_
      have HFF := Aside0.mk hf_
      have HNL := Aside0.mk hn_
      clear ha hf_ hn_ HF
      generalize (nextI most lc bg oc) = NX at *
      obtain ⟨l5, o5⟩ := NX
      refine c1_.mono ?_
      clear c1_
      rintro e_ w5 ⟨hH5, v5, hI5, hm5⟩
      obtain ⟨A5, c5, rfl, h5, hF5⟩ : ∃ A5 c5, e_ = .returned (.tuple #[.agg #[.int .i64 f0, .int .i64 f1, .int .i64 f2, .slice A5 f3.length c5], .int .i64 er]) ∧ f3.length ≤ c5 ∧ Kd.F (Kd.int .u8) w5 (fun k => wr.heap.size ≤ k ∧ k < w5.heap.size) A5 f3.length f3 := hH5
      have hb6 := below_alloc (Below.refl w5.heap.size w5) (.cells #[.int .i64 f0, .int .i64 f1, .int .i64 f2, .slice A5 f3.length c5] 67)
      have hN5 := Kd.N_step (w1 := w5) HN.out (fun k hk hlt => hm5.1.block k hlt (fun h2 => by
        rcases h2 with rfl | h2
        · have := blk_lt HI.out.1; omega
        · have := HI.out.2.1.lt k (HM.out.2 k h2); omega))
      have HN6 := Aside0.mk (Kd.N_below hN5 hb6)
      have HI6 := Aside0.mk (hI5.below hb6)
      have HM6 := Aside0.mk ((HM.out.trans hm5).below hb6)
      have HF6 := Aside0.mk (Kd.F_below hF5 hb6)
      have HSZ := Aside0.mk (Nat.le_trans HM.out.1.size (Nat.le_refl wr.heap.size))
      have HOL : Aside0 (∀ k, (Value.slice Ao out.length co).ownBlock = some k → k < wr.heap.size) := ⟨Kd.N_lt HN.out⟩
      have HS5 := Aside0.mk hm5.1.size
      have HFT : Aside0 (∀ k, FootT g v5 k → k < w.heap.size) := ⟨fun k hk => by
        rcases hk with rfl | hk
        · exact blk_lt HI.out.1
        · exact HI.out.2.1.lt k (HM.out.2 k (hm5.2 k hk))⟩
      have HOB : Aside0 (∀ k, (Value.slice Ao out.length co).ownBlock = some k → w.heap.size ≤ k) := ⟨Kd.N_base HN.out⟩
      have hB6 := blk_new w5 (.cells #[.int .i64 f0, .int .i64 f1, .int .i64 f2, .slice A5 f3.length c5] 67)
      have HSZ6 : Aside0 (wr.heap.size ≤ (w5.alloc (.cells #[.int .i64 f0, .int .i64 f1, .int .i64 f2, .slice A5 f3.length c5] 67)).heap.size) := ⟨by rw [World.size_alloc]; have := HS5.out; omega⟩
      clear hF5 hN5 hI5 hm5 hb6 HC HM HN HI
      by_cases he : er = 0
      · subst he
        have HW := HFF.out
        rw [if_neg (show ¬ ((⟨f0, f1, f2, f3⟩ : S67), (0 : Int)).2 ≠ 0 from fun h => h rfl)] at HW
        have HFW := Aside0.mk HW
        clear HW HFF bi
        go_wp2_with (first | (at_builtin; go_loud (refine Kd.N_append k67 (w0 := w5.alloc (.cells #[.int .i64 f0, .int .i64 f1, .int .i64 f2, .slice A5 f3.length c5] 67)) w.heap.size rfl (.tmp 21) (.tmp 23) 56 67 (.agg #[(.int .i64 0), (.int .i64 0), (.int .i64 0), (.slice none 0 0)]) 48 rfl Try.underlying56 info67c rfl (by decide) (by decide) _ out ⟨f0, f1, f2, f3⟩ [.int .i64 f0, .int .i64 f1, .int .i64 f2, .slice A5 f3.length c5] (fun k => w.heap.size ≤ k) (fun k => wr.heap.size ≤ k ∧ k < w5.heap.size) rfl (by rw [World.size_alloc]; rfl) (fk67_of h5 HF6.out (fun k hk => hk.1)) (fun k hk => ⟨Nat.le_trans HSZ.out hk.1, fun e => by have := HOL.out k e.symm; omega⟩) (fun k hk => Nat.le_trans HSZ.out (Nat.le_trans HSZ6.out hk)) HN6.out (Below.refl _ _) (Nat.le_trans HSZ.out HSZ6.out) (by have := HL.out; omega) ?_; intro v9 w9 hN9 hb9 hg9 hat9; have HN9 := Aside0.mk hN9; have HG9 := Aside0.mk hg9; clear hN9 hb9 hat9)))
        go_roundg k1
        case measure => omega
        case rel =>
          refine ⟨i + 1, v5, l5, o5, out ++ [⟨f0, f1, f2, f3⟩], ?_, ⟨by have := HK.out; omega⟩, ⟨HI6.out.keeps ((Keeps.refl _ (fun k => (Value.slice Ao out.length co).ownBlock = some k)).grown HG9.out (fun k e => .inl e)) (fun k hk e => by have h1 := HFT.out k hk; have h2 := HOB.out k e; omega)⟩, ⟨HM6.out.grown HG9.out (fun k e => HOB.out k e)⟩, HN9, ⟨?_⟩, ⟨HNL.out.1, by have h1 := HNL.out.2; have h2 := HL.out.2.1; exact Nat.le_trans h1 h2, by have h1 := HL.out.2.2; rw [List.length_append]; simp; omega⟩⟩
          · first | rfl | (rw [wr_in (by omega) (by omega)]; rfl)
          · rw [HFW.out, show 8889 - (i + 1) = m by omega]
            simp
      · have HW := HFF.out
        rw [if_pos (show ((⟨f0, f1, f2, f3⟩ : S67), er).2 ≠ 0 from he)] at HW
        have HFW := Aside0.mk HW
        have b1 : (er != 0) = true := bne_iff_ne.mpr he
        have b2 : (er == 0) = false := beq_eq_false_iff_ne.mpr he
        clear HW HFF bi he
        go_wp2_with fail
        go_ret2
        rw [HFW.out]
        refine ⟨_, rfl, ?_, v5, HI6.out, HM6.out⟩
        simpa using HN6.out
    · have bi : decide ((i : Int) ≤ 8888) = false := decide_eq_false (by omega)
      obtain rfl : i = 8889 := by have := HK.out; omega
      go_wp2_with fail
      go_ret2
      rw [HF.out]
      refine ⟨_, rfl, ?_, vc, HC.out, HM.out⟩
      simpa [frs] using HN.out
end
end Go.Proofs.Ytbmnplojpeabmaa.It

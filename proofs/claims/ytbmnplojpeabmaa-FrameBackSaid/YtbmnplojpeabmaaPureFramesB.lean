/-
  Frames' bytes, one behind the other: what the reference tells of them, whole and cut short.
  Conditions: frames that may be; bytes.
-/
import Derived.Test.YtbmnplojpeabmaaPureFrameB
namespace Go.Proofs.Ytbmnplojpeabmaa.FramePure
open Go Go.RowKit Go.Proofs.Ytbmnplojpeabmaa.QB Go.Proofs.Ytbmnplojpeabmaa.WirePure Go.Proofs.YtbmnplojpeabmaaW.PrintWords Go.Proofs.YtbmnplojpeabmaaW.PrintLast
set_option linter.unusedVariables false
set_option linter.unusedSimpArgs false
/-- A frame that may be, of no more bytes than a bound. -/
def Fine (most : Int) (x : S67) : Prop := right x.f0 x.f1 x.f2 x.f3 ∧ (x.f3.length : Int) ≤ most ∧ Bytes x.f3
/-- Frames' bytes, one behind the other. -/
def Bs (fs : List S67) : List Int := (fs.map fun x => enc x.f0 x.f1 x.f2 x.f3).flatten
theorem Bs_nil : Bs [] = [] := rfl
theorem Bs_cons (x : S67) (fs : List S67) : Bs (x :: fs) = enc x.f0 x.f1 x.f2 x.f3 ++ Bs fs := rfl
theorem Bs_append (fs gs : List S67) : Bs (fs ++ gs) = Bs fs ++ Bs gs := by simp [Bs]
theorem Bs_one (x : S67) : Bs [x] = enc x.f0 x.f1 x.f2 x.f3 := by simp [Bs]
theorem bytes_app {l m : List Int} (h : Bytes l) (k : Bytes m) : Bytes (l ++ m) := fun x hx => by
  rcases List.mem_append.1 hx with h1 | h1
  · exact h x h1
  · exact k x h1
theorem enc_bytes {a b c : Int} {l : List Int} (hl : Bytes l) : Bytes (enc a b c l) := bytes_app (be_bytes 3 _) (bytes_app (be_bytes 1 _) (bytes_app (be_bytes 1 _) (bytes_app (be_bytes 4 _) hl)))
theorem Bs_bytes {fs : List S67} (h : ∀ x ∈ fs, Bytes x.f3) : Bytes (Bs fs) := by
  induction fs with
  | nil => intro x hx; cases hx
  | cons x fs ih => rw [Bs_cons]; exact bytes_app (enc_bytes (h x List.mem_cons_self)) (ih (fun y hy => h y (List.mem_cons_of_mem _ hy)))
/-- A frame's bytes, each by itself. -/
theorem enc_list {a b c : Int} {l : List Int} (hr : right a b c l) : enc a b c l = ((l.length : Int) / 65536 % 256) :: ((l.length : Int) / 256 % 256) :: ((l.length : Int) % 256) :: a :: b :: (c / 16777216 % 256) :: (c / 65536 % 256) :: (c / 256 % 256) :: (c % 256) :: l := by
  obtain ⟨h1, h2, h3, h4, h5, h6, h7⟩ := hr
  have e3 : be 3 (l.length : Int) = [(l.length : Int) / 256 / 256 % 256, (l.length : Int) / 256 % 256, (l.length : Int) % 256] := rfl
  have e4 : be 4 c = [c / 256 / 256 / 256 % 256, c / 256 / 256 % 256, c / 256 % 256, c % 256] := rfl
  unfold enc
  rw [e3, e4, be1 h1 h2, be1 h3 h4]
  simp only [List.cons_append, List.nil_append, List.cons.injEq, and_true, true_and]
  refine ⟨by omega, by omega, by omega⟩
theorem val3 (n : Int) (h0 : 0 ≤ n) (h1 : n ≤ 16777215) : val [n / 65536 % 256, n / 256 % 256, n % 256] 0 = n := by
  show 256 * (256 * (256 * 0 + n / 65536 % 256) + n / 256 % 256) + n % 256 = n
  omega
theorem val4 (n : Int) (h0 : 0 ≤ n) (h1 : n ≤ 2147483647) : val [n / 16777216 % 256, n / 65536 % 256, n / 256 % 256, n % 256] 0 % 2147483648 = n := by
  show (256 * (256 * (256 * (256 * 0 + n / 16777216 % 256) + n / 65536 % 256) + n / 256 % 256) + n % 256) % 2147483648 = n
  omega
/-- A frame's bytes begin with it, whatever is behind them. -/
theorem nx_enc {x : S67} {most : Int} (h : Fine most x) (r : List Int) : nx (enc x.f0 x.f1 x.f2 x.f3 ++ r) most = (x.f0, x.f1, x.f2, x.f3, 9 + (x.f3.length : Int), 0) := by
  obtain ⟨hr, hm, hb⟩ := h
  have hr7 := hr.2.2.2.2.2.2
  have hr5 := hr.2.2.2.2.1
  have hr6 := hr.2.2.2.2.2.1
  obtain ⟨a, b, c, l⟩ := x
  simp only [] at hr hm hb hr5 hr6 hr7 ⊢
  have hlen := enc_length a b c l
  rw [enc_list hr] at hlen ⊢
  unfold nx
  rw [if_neg (by rw [List.length_append, hlen]; omega)]
  have t3 : ∀ (e0 e1 e2 : Int) (t : List Int), (e0 :: e1 :: e2 :: t).take 3 = [e0, e1, e2] := fun _ _ _ _ => by simp
  simp only [List.cons_append]
  rw [t3, val3 _ (by omega) (by omega), if_neg (by omega), if_neg (by simp only [List.length_cons, List.length_append]; omega)]
  have d5 : ∀ (e0 e1 e2 e3 e4 e5 e6 e7 e8 : Int) (t : List Int), ((e0 :: e1 :: e2 :: e3 :: e4 :: e5 :: e6 :: e7 :: e8 :: t).take 9).drop 5 = [e5, e6, e7, e8] := fun _ _ _ _ _ _ _ _ _ _ => by simp
  rw [d5, val4 _ hr5 hr6]
  refine Prod.ext rfl (Prod.ext rfl (Prod.ext rfl (Prod.ext ?_ rfl)))
  show (List.take (9 + (l.length : Int)).toNat _).drop 9 = l
  rw [show (9 + (l.length : Int)).toNat = l.length + 9 by omega]
  simp
/-- Cut short, they begin with none. -/
theorem nx_cut {x : S67} {most : Int} (h : Fine most x) (j : Nat) (hj : j < 9 + x.f3.length) : nx ((enc x.f0 x.f1 x.f2 x.f3).take j) most = (0, 0, 0, [], 0, 2) := by
  obtain ⟨hr, hm, hb⟩ := h
  have hr7 := hr.2.2.2.2.2.2
  obtain ⟨a, b, c, l⟩ := x
  simp only [] at hr hm hb hr7 hj ⊢
  have hlen := enc_length a b c l
  have htl : ((enc a b c l).take j).length = j := by rw [List.length_take]; omega
  unfold nx
  by_cases h9 : j < 9
  · rw [if_pos (by omega)]
  · rw [if_neg (by omega), List.take_take, Nat.min_eq_left (by omega), htl]
    rw [enc_list hr]
    have t3 : ∀ (e0 e1 e2 : Int) (t : List Int), (e0 :: e1 :: e2 :: t).take 3 = [e0, e1, e2] := fun _ _ _ _ => by simp
    rw [t3, val3 _ (by omega) (by omega), if_neg (by omega), if_pos (by omega)]
theorem rall_frames (most : Int) (tail : List Int) (ht : Bytes tail) : ∀ (fs : List S67) (pre : List Int) (out : List S67) (k : Nat), 10 ≤ k → (∀ x ∈ fs, Fine most x) → Bytes pre → pre.length + (Bs fs).length + tail.length ≤ 10000000 → out.length + fs.length ≤ 2000000 →
    frame_All.l0 (k + fs.length) (pre ++ (Bs fs ++ tail)) most out pre.length = frame_All.l0 k (pre ++ (Bs fs ++ tail)) most (out ++ fs) ((pre.length + (Bs fs).length : Nat) : Int) := by
  intro fs
  induction fs with
  | nil => intro pre out k _ _ _ _ _; simp [Bs_nil]
  | cons x fs ih =>
    intro pre out k hk10 hf hp hl ho
    have hx := hf x List.mem_cons_self
    have hlx := enc_length x.f0 x.f1 x.f2 x.f3
    have hbx := enc_bytes (a := x.f0) (b := x.f1) (c := x.f2) hx.2.2
    have hbf : Bytes (Bs fs) := Bs_bytes (fun y hy => (hf y (List.mem_cons_of_mem _ hy)).2.2)
    rw [Bs_cons, List.length_append] at hl
    have hwhole : pre ++ (Bs (x :: fs) ++ tail) = (pre ++ enc x.f0 x.f1 x.f2 x.f3) ++ (Bs fs ++ tail) := by rw [Bs_cons]; simp only [List.append_assoc]
    have hih := ih (pre ++ enc x.f0 x.f1 x.f2 x.f3) (out ++ [x]) k hk10 (fun y hy => hf y (List.mem_cons_of_mem _ hy)) (bytes_app hp hbx) (by rw [List.length_append]; omega) (by simp only [List.length_append, List.length_cons, List.length_nil] at ho ⊢; omega)
    rw [← hwhole] at hih
    rw [List.length_cons, ← Nat.add_assoc, all_l0]
    have hlw : (pre ++ (Bs (x :: fs) ++ tail)).length = pre.length + (9 + x.f3.length + (Bs fs).length + tail.length) := by rw [Bs_cons]; simp only [List.length_append]; omega
    rw [if_pos (by rw [hlw]; omega), if_pos (by omega), if_pos (by rw [hlw]; omega), Int.toNat_natCast, List.drop_left]
    have hbt : Bytes (Bs (x :: fs) ++ tail) := by rw [Bs_cons]; exact bytes_app (bytes_app hbx hbf) ht
    rw [nextE (by omega) _ most hbt (by rw [Bs_cons]; simp only [List.length_append]; omega), Bs_cons, List.append_assoc, nx_enc hx]
    simp only [Option.bind_some, if_true]
    rw [if_pos (by simp only [List.length_cons] at ho; omega), wr_in (by omega) (by omega)]
    rw [Bs_cons, List.append_assoc] at hih
    rw [show (pre.length : Int) + (9 + (x.f3.length : Int)) = (((pre ++ enc x.f0 x.f1 x.f2 x.f3).length : Nat) : Int) by rw [List.length_append]; omega]
    rw [show (out ++ [⟨x.f0, x.f1, x.f2, x.f3⟩] : List S67) = out ++ [x] from rfl, hih]
    rw [show out ++ [x] ++ fs = out ++ x :: fs by simp]
    congr 1
    simp only [List.length_append]
    omega
/-- All frames, with nothing behind them. -/
theorem rallE {most : Int} {fs : List S67} (hf : ∀ x ∈ fs, Fine most x) (hl : (Bs fs).length ≤ 1000000) (hn : fs.length ≤ 2000000) {k : Nat} (hk : fs.length + 10 < k) : frame_All.f k (Bs fs) most = some (fs, (((Bs fs).length : Nat) : Int), 0) := by
  obtain ⟨m, rfl⟩ : ∃ m, k = (m + 1) + fs.length := ⟨k - fs.length - 1, by omega⟩
  have h := rall_frames most [] (fun x hx => by cases hx) fs [] [] (m + 1) (by omega) hf (fun x hx => by cases hx) (by simp; omega) (by simpa using hn)
  simp only [List.append_nil, List.nil_append, List.length_nil, Nat.zero_add] at h
  unfold frame_All.f
  rw [show (0 : Int) = ((0 : Nat) : Int) from rfl, h, all_l0, if_neg (by omega)]
  rfl
/-- All frames, with a piece behind them that is none. -/
theorem rallCut {most : Int} {fs : List S67} (hf : ∀ x ∈ fs, Fine most x) (tail : List Int) (ht : Bytes tail) (hl : (Bs fs).length + tail.length ≤ 1000000) (hn : fs.length ≤ 2000000) (h0 : 0 < tail.length) (hx : nx tail most = (0, 0, 0, [], 0, 2)) {k : Nat} (hk : fs.length + 10 < k) :
    frame_All.f k (Bs fs ++ tail) most = some (fs, (((Bs fs).length : Nat) : Int), 2) := by
  obtain ⟨m, rfl⟩ : ∃ m, k = (m + 1) + fs.length := ⟨k - fs.length - 1, by omega⟩
  have h := rall_frames most tail ht fs [] [] (m + 1) (by omega) hf (fun x hx => by cases hx) (by simp; omega) (by simpa using hn)
  simp only [List.nil_append, List.length_nil, Nat.zero_add] at h
  unfold frame_All.f
  rw [show (0 : Int) = ((0 : Nat) : Int) from rfl, h, all_l0, if_pos (by simp; omega), if_pos (by omega), if_pos (by simp; omega), Int.toNat_natCast, List.drop_left, nextE (by omega) _ most ht (by omega), hx]
  rfl
end Go.Proofs.Ytbmnplojpeabmaa.FramePure

/-
  INTAKE: the intake beside the document's.
  Conditions: none of its own; lemmas that the claim's row rests on.
-/
import Derived.Test.YtbmnplojpeabmaaIt12
import Derived.WalkKit
namespace Go.Proofs.Ytbmnplojpeabmaa.It
open Go.RowKit Go.Proofs.YtbmnplojpeabmaaW.PrintWords Go.Proofs.YtbmnplojpeabmaaW.PrintLast Go.Proofs.YtbmnplojpeabmaaW.PrintMore
attribute [local go_sem] max2_int min2_int max_two min_two max_three min_three max_four min_four
set_option linter.unusedVariables false
set_option linter.unusedSimpArgs false
open Go.Proofs.Ytbmnplojpeabmaa.Ob Go.Proofs.Ytbmnplojpeabmaa.QI Go.Proofs.Ytbmnplojpeabmaa.FramePure Go.Proofs.Ytbmnplojpeabmaa.WirePure Go.Proofs.Ytbmnplojpeabmaa.IntakePure
structure S104 where
  f0 : (List Int)
  f1 : Int
def z104 : S104 := ⟨([] : List Int), (0 : Int)⟩
def k104 : Kd S104 := Kd.iso (Kd.pair (Kd.slice 5 (Kd.int .u8)) (Kd.int .u8)) (fun x : S104 => (x.f0, x.f1))
theorem k104_open {w : World} {x : S104} {cs : List Value} (h : k104.K w x cs) : ∃ A0 c0, cs = [.slice A0 x.f0.length c0, .int .u8 x.f1] ∧ x.f0.length ≤ c0 ∧ (Kd.int .u8).C w A0 x.f0.length x.f0 := by
  obtain ⟨_, _, rfl, ⟨A0, c0, rfl, l0, g0⟩, rfl⟩ := h
  exact ⟨A0, c0, rfl, l0, g0⟩
def rd_T104 (xs : List S104) (i : Int) : S104 := xs.getD i.toNat z104
theorem at_T104 {w : World} {A : Option Addr} {n : Nat} {xs : List S104} (h : Kd.C k104 w A n xs) (i : Int) (h0 : 0 ≤ i) (h1 : i < n) : ∃ ad A0 c0, A = some ad ∧ w.cell? (ad.add (i.toNat * 2)) = some (.slice A0 (rd_T104 xs i).f0.length c0) ∧ w.cell? ⟨(ad.add (i.toNat * 2)).block, (ad.add (i.toNat * 2)).off + 1, none⟩ = some (.int .u8 (rd_T104 xs i).f1) ∧ (rd_T104 xs i).f0.length ≤ c0 ∧ (Kd.int .u8).C w A0 (rd_T104 xs i).f0.length (rd_T104 xs i).f0 := by
  obtain ⟨ad, c, e, _, hK, hc0⟩ := Kd.C_get h z104 i h0 h1
  have hc : ∀ j u, c[j]? = some u → w.cell? (ad.add (i.toNat * 2 + j)) = some u := hc0
  obtain ⟨A0, c0, rfl, l0, g0⟩ := k104_open hK
  exact ⟨ad, A0, c0, e, hc 0 _ rfl, by rw [← add_field _ _ 1 (by omega)]; exact hc 1 _ rfl, l0, g0⟩
theorem rd104_mem {l : List S104} {P : S104 → Prop} (h : ∀ x ∈ l, P x) (i : Int) (h0 : 0 ≤ i) (h1 : i < l.length) : P (rd_T104 l i) := by
  have hi : i.toNat < l.length := by omega
  have e : rd_T104 l i = l[i.toNat] := by simp [rd_T104, hi]
  rw [e]
  exact h _ (List.getElem_mem hi)
/-- The intake and the document's. -/
structure Tr (w0 W : World) (most : Int) (gt : Nat) (vt : Value) (l : List Int) (bg : Bool) (ov : Int) (gm : Nat) (vm : Value) (B : List Int) (T : Nat) (O : Int) : Prop where
  t : IsT W gt most vt l bg ov
  m : IsR W gm most vm B (T : Int) O
  p : Pair w0 W gt vt gm vm
section
variable {w0 W W' : World} {most : Int} {gt gm : Nat} {vt vm vt' vm' : Value} {l l' B B' : List Int} {bg bg' : Bool} {ov ov' O O' : Int} {T T' : Nat}
theorem Tr.left (h : Tr w0 W most gt vt l bg ov gm vm B T O) (ht : IsT W' gt most vt' l' bg' ov') (hm : Mt W gt vt W' vt') : Tr w0 W' most gt vt' l' bg' ov' gm vm B T O :=
  ⟨ht, h.m.keeps hm.1 (fun k hk hs => h.p.ap k hs hk), h.p.left hm ht.foot⟩
theorem Tr.right (h : Tr w0 W most gt vt l bg ov gm vm B T O) (ht : IsR W' gm most vm' B' (T' : Int) O') (hm : Mt W gm vm W' vm') : Tr w0 W' most gt vt l bg ov gm vm' B' T' O' :=
  ⟨h.t.keeps hm.1 (fun k hk hs => h.p.ap k hk hs), ht, (h.p.swap.left hm ht.foot).swap⟩
theorem Tr.below (h : Tr w0 W most gt vt l bg ov gm vm B T O) (hb : Below W.heap.size W W') : Tr w0 W' most gt vt l bg ov gm vm B T O := ⟨h.t.below hb, h.m.below hb, h.p.below hb⟩
theorem Tr.feed (h : Tr w0 W most gt vt l bg ov gm vm B T O) (A3 : Option Addr) (c3 : Nat) (l3 : List Int) (hr3 : Kd.C (Kd.int .u8) W A3 l3.length l3) (hc3 : l3.length ≤ c3) (hl : l.length + l3.length ≤ 140737488350000) (hb : Bytes l) (hb3 : Bytes l3) :
    Calls Try.prog 68 #[.pointer (some ⟨gt, 0, none⟩), .slice A3 l3.length c3] W fun e w' => ∃ v0, e = .returned v0 ∧ ∃ v', Tr w0 w' most gt v' (feedI l bg ov l3).1 (feedI l bg ov l3).2.1 (feedI l bg ov l3).2.2 gm vm B T O := by
  refine (intake_Feed.is h.t hr3 hc3 (by omega) hb hb3).mono ?_
  rintro e w' ⟨v0, rfl, v', hI, hm⟩
  exact ⟨v0, rfl, v', h.left hI hm⟩
theorem Tr.feedR (h : Tr w0 W most gt vt l bg ov gm vm B T O) (A3 : Option Addr) (c3 : Nat) (l3 : List Int) (hr3 : Kd.C (Kd.int .u8) W A3 l3.length l3) (hc3 : l3.length ≤ c3) (hl : B.length + l3.length ≤ 140737488350000) :
    Calls Try.prog 69 #[.pointer (some ⟨gm, 0, none⟩), .slice A3 l3.length c3] W fun e w' => ∃ v0, e = .returned v0 ∧ ∃ v', Tr w0 w' most gt vt l bg ov gm v' (feedR B O l3).1 T (feedR B O l3).2 := by
  refine (r13_Feed.is h.m hr3 hc3 hl).mono ?_
  rintro e w' ⟨v0, rfl, v', hI, hm⟩
  exact ⟨v0, rfl, v', h.right hI hm⟩
theorem Tr.next (h : Tr w0 W most gt vt l bg ov gm vm B T O) (hb : Bytes l) (hl : l.length ≤ 140737488350000) :
    Calls Try.prog 70 #[.pointer (some ⟨gt, 0, none⟩)] W fun e w' => Hands W w' e (ansI most l bg ov) ∧ ∃ v', Tr w0 w' most gt v' (nextI most l bg ov).1 bg (nextI most l bg ov).2 gm vm B T O := by
  refine (intake_Next.is h.t hb hl).mono ?_
  rintro e w' ⟨hH, v', hI, hm⟩
  exact ⟨hH, v', h.left hI hm⟩
theorem Tr.nextR (h : Tr w0 W most gt vt l bg ov gm vm B T O) (htb : T ≤ 1000000) (hb : Bytes B) (hl : B.length ≤ 140737488350000) (ht : O = 0 → IntakePure.Told B most T) :
    Calls Try.prog 71 #[.pointer (some ⟨gm, 0, none⟩)] W fun e w' => Hands W w' e (ansR most B T O) ∧ Tr w0 w' most gt vt l bg ov gm vm B (nextR most B T O).1 (nextR most B T O).2 ∧ Keeps W w' (FootT gm vm) := by
  refine (r13_Next.is h.m rfl htb hb hl ht).mono ?_
  rintro e w' ⟨hH, hI, hk⟩
  exact ⟨hH, h.right hI ⟨hk, fun k hk => .inl hk⟩, hk⟩
end
theorem feedR_len (B : List Int) (O : Int) (c : List Int) : (feedR B O c).1.length ≤ B.length + c.length := by
  unfold feedR
  split
  · exact Nat.le_add_right _ _
  · rw [List.length_append]; exact Nat.le_refl _
theorem nextR_le (most : Int) (B : List Int) (T : Nat) (O : Int) : (nextR most B T O).1 ≤ T + 1 := by
  unfold nextR
  repeat' split
  all_goals simp
theorem rel_told {most : Int} {l : List Int} {bg : Bool} {ov : Int} {B : List Int} {T : Nat} {O : Int} (h : Rel most l bg ov B T O) : O = 0 → IntakePure.Told B most T := fun ho => (h.ok (by rw [← h.ovE]; exact ho)).2.1
theorem ansI_len (most : Int) {l : List Int} {bg : Bool} {ov : Int} (hb : Bytes l) : (ansI most l bg ov).1.f3.length ≤ l.length := by
  unfold ansI
  split
  · exact Nat.zero_le _
  · split
    · exact Nat.zero_le _
    · rcases nx_ways most hb with e | ⟨_, _, e⟩ | ⟨v, _, _, hl, e⟩ <;> rw [e]
      · exact Nat.zero_le _
      · exact Nat.zero_le _
      · show ((l.take (9 + v)).drop 9).length ≤ l.length
        rw [List.length_drop, List.length_take]
        omega
end Go.Proofs.Ytbmnplojpeabmaa.It

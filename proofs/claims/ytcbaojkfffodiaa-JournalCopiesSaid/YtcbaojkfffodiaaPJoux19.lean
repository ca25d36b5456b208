-- written by wip/myprint.py over the kit's print; not a printed text of print.sh
import Derived.Test.YtcbaojkfffodiaaPJoux0
import Derived.Test.YtcbaojkfffodiaaPJoux3
import Derived.Test.YtcbaojkfffodiaaPJoux8
import Derived.Test.YtcbaojkfffodiaaPJoux15
namespace Go.Proofs.Ytcbaojkfffodiaa.PJou
open Go.RowKit Go.Proofs.YtcbaojkfffodiaaW.PrintWords Go.Proofs.YtcbaojkfffodiaaW.PrintLast Go.Proofs.YtcbaojkfffodiaaW.PrintMore
attribute [local go_sem] max2_int min2_int max_two min_two max_three min_three max_four min_four   -- for this text's walks alone
set_option linter.unusedVariables false
set_option linter.unusedSimpArgs false

/-! ### words: jl.inc -/
/-! ### a journal and the document's levels, beside each other -/
theorem lit1_V {W : World} {b : Nat} {xv : Value} {x : List S51} {P : Nat → Prop} (hb : W.heap[b]? = some (.cells #[xv] 26 (0, 0))) (hP : P b) (hx : Kd.V k51 51 W 0 P xv x) :
    Kd.V (Kd.slice 51 k51) 26 W 0 P (.slice (some ⟨b, 0, none⟩) 1 1) [x] := by
  refine ⟨some ⟨b, 0, none⟩, 1, rfl, Nat.le_refl _, fun W' hW => ⟨rfl, by simp, fun _ => ⟨_, rfl, fun j p hj => ?_⟩⟩⟩
  have hj0 : j = 0 ∧ p = x := by
    cases j with
    | zero => exact ⟨rfl, by simpa using hj.symm⟩
    | succ j => simp at hj
  obtain ⟨rfl, rfl⟩ := hj0
  have hx' := Kd.V_step hx hW
  obtain ⟨A, c, rfl, hl, hf⟩ := hx'
  refine ⟨[.slice A p.length c], rfl, ⟨A, c, rfl, hl, Kd.F_now hf⟩, fun i u hu => ?_⟩
  have hi : i = 0 ∧ u = .slice A p.length c := by
    cases i with
    | zero => exact ⟨rfl, by simpa using hu.symm⟩
    | succ i => simp at hu
  obtain ⟨rfl, rfl⟩ := hi
  have hb2 : W'.heap[b]? = _ := (hW b hP (blk_lt hb)).trans hb
  show W'.cell? ((⟨b, 0, none⟩ : Addr).add 0) = _
  rw [add_plain]
  exact (blk_cell hb2 0).trans rfl
/-- A journal (blocks from n on), and a row of rows v that lies elsewhere. -/
def JL (n g : Nat) (st : JSt) (v : Value) (L : List (List S51)) (W : World) : Prop :=
  ∃ ok : Nat → Prop, (∀ k, ok k → n ≤ k ∧ k < W.heap.size) ∧ JM n ok g st W ∧ Kd.V (Kd.slice 51 k51) 26 W 0 (fun k => ¬ ok k) v L
theorem JL.of {n g : Nat} {st : JSt} {v : Value} {L : List (List S51)} {W : World} {ok : Nat → Prop} (hm : JM n ok g st W) (hv : Kd.V (Kd.slice 51 k51) 26 W 0 (fun k => ¬ ok k) v L) : JL n g st v L W :=
  ⟨_, fun k hk => ⟨hk.2.1, hk.2.2.1⟩, hm.bound, Kd.V_mono hv (fun k hk h => hk h.1)⟩
theorem JL.below {n g : Nat} {st : JSt} {v : Value} {L : List (List S51)} {W W' : World} (h : JL n g st v L W) (hb : Below W.heap.size W W') : JL n g st v L W' := by
  obtain ⟨ok, h1, h2, h3⟩ := h
  exact ⟨ok, fun k hk => ⟨(h1 k hk).1, Nat.lt_of_lt_of_le (h1 k hk).2 hb.size⟩, h2.below hb, Kd.V_below h3 hb⟩
/-- A deed of the journal: the row of rows stays. -/
theorem JL.did {n g : Nat} {st' : JSt} {v : Value} {L : List (List S51)} {ok : Nat → Prop} {W W' : World} (hv : Kd.V (Kd.slice 51 k51) 26 W 0 (fun k => ¬ ok k) v L)
    (hm : JM n (fun k => ok k ∨ W.heap.size ≤ k) g st' W') (hw : JW ok W W') : JL n g st' v L W' :=
  JL.of hm (Kd.V_mono (Kd.V_step (Kd.V_bound hv) (fun k hk hlt => hw.block k hlt hk.1)) (fun k hk h => h.elim hk.1 (fun h => by have := hk.2; omega)))
theorem v_last {P : Nat → Prop} {v : Value} {X : List (List S51)} {c : List S51} {W : World} (h : Kd.V (Kd.slice 51 k51) 26 W 0 P v (X ++ [c])) :
    ∃ ad A0 c0 cv, v = .slice (some ad) (X.length + 1) cv ∧ W.cell? (ad.add X.length) = some (.slice A0 c.length c0) ∧ c.length ≤ c0 ∧ Kd.F k51 W P A0 c.length c ∧ P ad.block := by
  obtain ⟨A, cv, rfl, hl, hf⟩ := h
  have hlen : (X ++ [c]).length = X.length + 1 := by simp
  obtain ⟨ad, cs, rfl, _, hK, hcc, hin⟩ := Kd.F_get hf ([] : List S51) (X.length : Int) (by omega) (by omega)
  obtain ⟨A0, c0, rfl, hl0, hF⟩ := Kd.FK_slice_open hK
  have hrd : (X ++ [c]).getD (X.length : Int).toNat [] = c := by simp
  rw [hrd] at hcc hl0 hF
  have h1 : W.cell? (ad.add ((X.length : Int).toNat * 1 + 0)) = some (.slice A0 c.length c0) := hcc 0 _ rfl
  rw [Int.toNat_natCast, Nat.mul_one, Nat.add_zero] at h1
  exact ⟨ad, A0, c0, cv, by rw [hlen], h1, hl0, hF, hin (by decide)⟩
theorem cell_jw {ok : Nat → Prop} {W W' : World} (h : JW ok W W') {ad : Addr} {m : Nat} {u : Value} (hp : ¬ ok ad.block) (hc : W.cell? (ad.add m) = some u) : W'.cell? (ad.add m) = some u := by
  have hlt := World.block_lt_of_cell? _ _ hc
  rw [add_block] at hlt
  exact (World.cell?_of_block (a := ad.add m) (by rw [add_block]; exact h.block ad.block hlt hp)).trans hc
theorem freK_bd (l : List S51) : sortK (freK l) ∧ (freK l).length ≤ l.length := by
  have key : ∀ (l : List S51) (c : List S51), sortK c → sortK (l.foldl (fun c p => setK c p.f0 p.f1) c) ∧ (l.foldl (fun c p => setK c p.f0 p.f1) c).length ≤ c.length + l.length := by
    intro l
    induction l with
    | nil => intro c h; exact ⟨h, Nat.le_refl _⟩
    | cons a t ih =>
      intro c h
      obtain ⟨h1, h2⟩ := ih (setK c a.f0 a.f1) (sortK_set h _ _)
      have := setK_len c a.f0 a.f1
      rw [List.foldl_cons, List.length_cons]
      exact ⟨h1, by omega⟩
  have := key l [] List.Pairwise.nil
  exact ⟨this.1, by simpa [freK] using this.2⟩

end Go.Proofs.Ytcbaojkfffodiaa.PJou

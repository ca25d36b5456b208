/- Written by wip/myrow.py: what the laws' arguments hold, out of what they read as. No condition. -/
import Derived.Test.YtjappgjpikbdeaaGreatDoorPTkpx0
import Derived.Test.YtjappgjpikbdeaaGreatDoorPTkpx1
import Derived.Test.YtjappgjpikbdeaaGreatDoorPTkpx2
import Derived.Test.YtjappgjpikbdeaaGreatDoorPTkpx3
import Derived.Test.YtjappgjpikbdeaaGreatDoorPTkpx4
import Derived.Test.YtjappgjpikbdeaaGreatDoorPTkpx5
import Derived.Test.YtjappgjpikbdeaaGreatDoorPTkpx6
import Derived.Test.YtjappgjpikbdeaaGreatDoorPTkpx7
import Derived.Test.YtjappgjpikbdeaaGreatDoorPTkpx8
import Derived.Test.YtjappgjpikbdeaaGreatDoorPTkpx9
import Derived.Test.YtjappgjpikbdeaaGreatDoorPTkpx10
import Derived.Test.YtjappgjpikbdeaaGreatDoorPTkpx11
import Derived.ChangeArms
import Derived.DataReads
namespace Go.Proofs.YtjappgjpikbdeaaGreatDoor.PTkp
open Go.RowKit Go.Proofs.YtjappgjpikbdeaaGreatDoorW.PrintWords Go.Proofs.YtjappgjpikbdeaaGreatDoorW.PrintLast
set_option linter.unusedVariables false
set_option linter.unusedSimpArgs false
/-! ### from what an argument reads as to what its cells hold -/
/-- Cells that read as a datum of type t hold a value of kind d, of which ok is known. -/
def Opens {α : Type} (P : Program) (t : TypeId) (d : Kd α) (ok : α → Prop) : Prop :=
  ∀ {H : Type} {enc : TypeId × Value → H} {w : World} {spare : Nat → Bool} {held : Bool} {fuel : Nat} {cs : List Value} {x : DataW H × List MemPlace},
    DataW.trod enc P w 0 spare held fuel t cs = some x → ∃ v, d.K w v cs ∧ ok v
theorem opens_int {P : Program} {t : TypeId} {k : IntKind} (ht : P.underlying t = some (.int k)) : Opens P t (Kd.int k) (fun n => (Lit.int k n).wf = true) := by
  intro H enc w spare held fuel cs x h
  obtain ⟨n, rfl, _, hw⟩ := DataW.trod_int ht h
  exact ⟨n, rfl, hw⟩
theorem opens_bool {P : Program} {t : TypeId} (ht : P.underlying t = some .bool) : Opens P t Kd.bool (fun _ => True) := by
  intro H enc w spare held fuel cs x h
  obtain ⟨b, rfl, _⟩ := DataW.trod_bool ht h
  exact ⟨b, rfl, trivial⟩
theorem opens_string {P : Program} {t : TypeId} (ht : P.underlying t = some .string) : Opens P t Kd.string (fun s => s.size ≤ 9223372036854775807) := by
  intro H enc w spare held fuel cs x h
  obtain ⟨s, rfl, _, hs⟩ := DataW.trod_string ht h
  exact ⟨s, rfl, by unfold maxLen at hs; omega⟩
theorem choose_list {α : Type} {n : Nat} {p : Nat → α → Prop} (h : ∀ i, i < n → ∃ x, p i x) : ∃ l : List α, l.length = n ∧ ∀ i x, l[i]? = some x → p i x := by
  induction n with
  | zero => exact ⟨[], rfl, fun i x hx => by simp at hx⟩
  | succ n ih =>
    obtain ⟨l, hl, hp⟩ := ih (fun i hi => h i (Nat.lt_succ_of_lt hi))
    obtain ⟨x, hx⟩ := h n (Nat.lt_succ_self n)
    refine ⟨l ++ [x], by rw [List.length_append, hl]; rfl, fun i y hy => ?_⟩
    by_cases hi : i < l.length
    · rw [List.getElem?_append_left hi] at hy
      exact hp i y hy
    · rw [List.getElem?_append_right (by omega)] at hy
      have h0 : i - l.length = 0 := by
        rcases Nat.eq_zero_or_pos (i - l.length) with h0 | h0
        · exact h0
        · rw [List.getElem?_eq_none (by simp; omega)] at hy; exact absurd hy (by simp)
      rw [h0] at hy
      obtain rfl := Option.some.inj hy
      rw [show i = n by omega]; exact hx
theorem opens_slice {α : Type} {P : Program} {t e : TypeId} {d : Kd α} {ok : α → Prop} (ht : P.underlying t = some (.slice e)) (hsz : P.cellsOf e = d.sz) (he : Opens P e d ok) :
    Opens P t (Kd.slice e d) (fun l => l.length ≤ 9223372036854775807 ∧ ∀ x ∈ l, ok x) := by
  intro H enc w spare held fuel cs x h
  rcases DataW.trod_slice ht h with ⟨rfl, _⟩ | ⟨a, len, cap, elems, rest, n, _, rfl, _, hb, hl, hm, hlen, hel, _, _⟩
  · exact ⟨[], ⟨none, 0, rfl, Nat.le_refl _, Kd.C_nil _ _⟩, by simp, by simp⟩
  · have hel2 : ∀ i, i < len → ∃ v, (∃ c, c.length = d.sz ∧ d.K w v c ∧ ∀ j u, c[j]? = some u → w.cell? (a.add (i * d.sz + j)) = some u) ∧ ok v := by
      intro i hi
      have h1 := hel i hi
      rw [List.getElem?_eq_getElem (by omega)] at h1
      obtain ⟨cs', hc, ht'⟩ := Option.bind_eq_some_iff.1 h1
      obtain ⟨v, hv, hok⟩ := he ht'
      obtain ⟨_, hcl, hcell⟩ := World.cells?_some hc
      refine ⟨v, ⟨cs', by rw [hcl, hsz], hv, fun j u hu => ?_⟩, hok⟩
      have hj : j < cs'.length := by
        rcases Nat.lt_or_ge j cs'.length with hj | hj
        · exact hj
        · rw [List.getElem?_eq_none hj] at hu; exact absurd hu (by simp)
      have h2 := hcell j (by omega)
      rw [hu, hsz] at h2
      have ha : (a.add (i * d.sz)).add j = a.add (i * d.sz + j) := by
        unfold Addr.add
        by_cases h1 : i * d.sz = 0 <;> by_cases h2 : j = 0 <;> simp [h1, h2, Nat.add_assoc]
      rwa [ha] at h2
    obtain ⟨l, hll, hlp⟩ := choose_list hel2
    refine ⟨l, ⟨some a, cap, by rw [hll], by omega, ?_⟩, by unfold maxLen at hm; omega, fun x hx => ?_⟩
    · refine ⟨rfl, by unfold maxLen at hm; omega, fun _ => ⟨a, rfl, fun j p hp => ?_⟩⟩
      exact (hlp j p hp).1
    · obtain ⟨i, hi⟩ := List.getElem?_of_mem hx
      exact (hlp i x hi).2
/-- A struct, field by field: what each field's cells hold. -/
theorem opens_field {α : Type} {P : Program} {t : TypeId} {fs : Array Field} {d : Kd α} {ok : α → Prop} (i : Nat) (f : Field) (hf : fs[i]? = some f) (ht : P.underlying t = some (.struct fs)) (he : Opens P f.type d ok)
    {H : Type} {enc : TypeId × Value → H} {w : World} {spare : Nat → Bool} {held : Bool} {fuel : Nat} {cs : List Value} {x : DataW H × List MemPlace} (h : DataW.trod enc P w 0 spare held fuel t cs = some x) :
    cs.length = P.cellsOf t ∧ ∃ v, d.K w v ((cs.drop f.offset).take (P.cellsOf f.type)) ∧ ok v := by
  obtain ⟨xs, n, _, _, hl, hxl, hx⟩ := DataW.trod_struct ht h
  refine ⟨hl, ?_⟩
  have hi : i < xs.length := by
    rw [hxl]
    exact (Array.getElem?_eq_some_iff.1 hf).1
  have h1 := hx i f hf
  rw [List.getElem?_eq_getElem hi] at h1
  exact he h1

def ok23 (x : S23) : Prop := x.f0.size ≤ 9223372036854775807 ∧ x.f1.size ≤ 9223372036854775807 ∧ x.f2.size ≤ 9223372036854775807 ∧ x.f3.size ≤ 9223372036854775807 ∧ x.f4.size ≤ 9223372036854775807
set_option maxRecDepth 100000 in
theorem opens23 : Opens Tryz.prog 23 k23 ok23 := by
  intro H enc w spare held fuel cs x h
  obtain ⟨hl, v0, K0, o0⟩ := opens_field 0 _ rfl Tryz.underlying23 (opens_string Tryz.underlying9) h
  obtain ⟨_, v1, K1, o1⟩ := opens_field 1 _ rfl Tryz.underlying23 (opens_string Tryz.underlying9) h
  obtain ⟨_, v2, K2, o2⟩ := opens_field 2 _ rfl Tryz.underlying23 (opens_string Tryz.underlying9) h
  obtain ⟨_, v3, K3, o3⟩ := opens_field 3 _ rfl Tryz.underlying23 (opens_string Tryz.underlying9) h
  obtain ⟨_, v4, K4, o4⟩ := opens_field 4 _ rfl Tryz.underlying23 (opens_string Tryz.underlying9) h
  have hn : cs.length = 5 := hl.trans (by kernel_rfl)
  clear hl
  replace K0 : Kd.string.K w v0 ((cs.drop 0).take (Tryz.prog.cellsOf 9)) := K0
  rw [show Tryz.prog.cellsOf 9 = 1 from by kernel_rfl] at K0
  replace K1 : Kd.string.K w v1 ((cs.drop 1).take (Tryz.prog.cellsOf 9)) := K1
  rw [show Tryz.prog.cellsOf 9 = 1 from by kernel_rfl] at K1
  replace K2 : Kd.string.K w v2 ((cs.drop 2).take (Tryz.prog.cellsOf 9)) := K2
  rw [show Tryz.prog.cellsOf 9 = 1 from by kernel_rfl] at K2
  replace K3 : Kd.string.K w v3 ((cs.drop 3).take (Tryz.prog.cellsOf 9)) := K3
  rw [show Tryz.prog.cellsOf 9 = 1 from by kernel_rfl] at K3
  replace K4 : Kd.string.K w v4 ((cs.drop 4).take (Tryz.prog.cellsOf 9)) := K4
  rw [show Tryz.prog.cellsOf 9 = 1 from by kernel_rfl] at K4
  obtain ⟨c0, c1, c2, c3, c4, rfl⟩ : ∃ c0 c1 c2 c3 c4, cs = [c0, c1, c2, c3, c4] := by
    match cs, hn with
    | [c0, c1, c2, c3, c4], _ => exact ⟨_, _, _, _, _, rfl⟩
  replace K0 : [c0] = [.string v0] := K0
  injection K0 with K0 _
  subst K0
  replace K1 : [c1] = [.string v1] := K1
  injection K1 with K1 _
  subst K1
  replace K2 : [c2] = [.string v2] := K2
  injection K2 with K2 _
  subst K2
  replace K3 : [c3] = [.string v3] := K3
  injection K3 with K3 _
  subst K3
  replace K4 : [c4] = [.string v4] := K4
  injection K4 with K4 _
  subst K4
  exact ⟨⟨v0, v1, v2, v3, v4⟩, k23_mk w _ , ⟨o0, o1, o2, o3, o4⟩⟩
def ok41 (x : S41) : Prop := (Lit.int .i64 x.f0).wf = true ∧ ok23 x.f1 ∧ x.f2.size ≤ 9223372036854775807
set_option maxRecDepth 100000 in
theorem opens41 : Opens Tryz.prog 41 k41 ok41 := by
  intro H enc w spare held fuel cs x h
  obtain ⟨hl, v0, K0, o0⟩ := opens_field 0 _ rfl Tryz.underlying41 (opens_int Tryz.underlying3) h
  obtain ⟨_, v1, K1, o1⟩ := opens_field 1 _ rfl Tryz.underlying41 opens23 h
  obtain ⟨_, v2, K2, o2⟩ := opens_field 2 _ rfl Tryz.underlying41 (opens_string Tryz.underlying9) h
  have hn : cs.length = 7 := hl.trans (by kernel_rfl)
  clear hl
  replace K0 : (Kd.int .i64).K w v0 ((cs.drop 0).take (Tryz.prog.cellsOf 3)) := K0
  rw [show Tryz.prog.cellsOf 3 = 1 from by kernel_rfl] at K0
  replace K1 : k23.K w v1 ((cs.drop 1).take (Tryz.prog.cellsOf 23)) := K1
  rw [show Tryz.prog.cellsOf 23 = 5 from by kernel_rfl] at K1
  replace K2 : Kd.string.K w v2 ((cs.drop 6).take (Tryz.prog.cellsOf 9)) := K2
  rw [show Tryz.prog.cellsOf 9 = 1 from by kernel_rfl] at K2
  obtain ⟨c0, c1, c2, c3, c4, c5, c6, rfl⟩ : ∃ c0 c1 c2 c3 c4 c5 c6, cs = [c0, c1, c2, c3, c4, c5, c6] := by
    match cs, hn with
    | [c0, c1, c2, c3, c4, c5, c6], _ => exact ⟨_, _, _, _, _, _, _, rfl⟩
  replace K0 : [c0] = [.int .i64 v0] := K0
  injection K0 with K0 _
  subst K0
  replace K1 := k23_open (show k23.K w v1 [c1, c2, c3, c4, c5] from K1)
  simp only [List.cons.injEq, and_true] at K1
  obtain ⟨rfl, rfl, rfl, rfl, rfl⟩ := K1
  replace K2 : [c6] = [.string v2] := K2
  injection K2 with K2 _
  subst K2
  exact ⟨⟨v0, v1, v2⟩, k41_mk w _ , ⟨o0, o1, o2⟩⟩
end Go.Proofs.YtjappgjpikbdeaaGreatDoor.PTkp

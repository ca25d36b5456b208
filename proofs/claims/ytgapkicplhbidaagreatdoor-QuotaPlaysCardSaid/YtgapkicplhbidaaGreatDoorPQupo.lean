/- Written by wip/myrow.py: what the laws' arguments hold, out of what they read as. No condition. -/
import Derived.Test.YtgapkicplhbidaaGreatDoorPQupx0
import Derived.Test.YtgapkicplhbidaaGreatDoorPQupx1
import Derived.Test.YtgapkicplhbidaaGreatDoorPQupx2
import Derived.Test.YtgapkicplhbidaaGreatDoorPQupx3
import Derived.Test.YtgapkicplhbidaaGreatDoorPQupx4
import Derived.Test.YtgapkicplhbidaaGreatDoorPQupx5
import Derived.Test.YtgapkicplhbidaaGreatDoorPQupx6
import Derived.Test.YtgapkicplhbidaaGreatDoorPQupx7
import Derived.ChangeArms
import Derived.DataReads
namespace Go.Proofs.YtgapkicplhbidaaGreatDoor.PQup
open Go.RowKit Go.Proofs.YtgapkicplhbidaaGreatDoorW.PrintWords Go.Proofs.YtgapkicplhbidaaGreatDoorW.PrintLast
set_option linter.unusedVariables false
set_option linter.unusedSimpArgs false
/-! ### from what an argument reads as to what its cells hold -/
/-- Cells that read as a datum of type t hold a value of kind d, of which ok is known. -/
def Opens {α : Type} (P : Program) (t : TypeId) (d : Kd α) (ok : α → Prop) : Prop :=
  ∀ {H : Type} {enc : TypeId × Value → H} {w : World} {spare : Nat → Bool} {held : Bool} {fuel : Nat} {cs : List Value} {x : DataW H × List MemPlace},
    DataW.trod enc P w 0 spare held fuel t cs = some x → ∃ v, d.K w v cs ∧ ok v
theorem opens_int {P : Program} {t : TypeId} {k : IntKind} (ht : P.underlying t = some (.int k)) : Opens P t (Kd.int k) (fun n => (Lit.int k n).wf = true) := by
  intro H enc w spare held fuel cs x h
  obtain ⟨n, rfl, _, hw⟩ := DataW.trod_int ht h
  exact ⟨n, rfl, hw⟩
theorem opens_bool {P : Program} {t : TypeId} (ht : P.underlying t = some .bool) : Opens P t Kd.bool (fun _ => True) := by
  intro H enc w spare held fuel cs x h
  obtain ⟨b, rfl, _⟩ := DataW.trod_bool ht h
  exact ⟨b, rfl, trivial⟩
theorem opens_string {P : Program} {t : TypeId} (ht : P.underlying t = some .string) : Opens P t Kd.string (fun s => s.size ≤ 9223372036854775807) := by
  intro H enc w spare held fuel cs x h
  obtain ⟨s, rfl, _, hs⟩ := DataW.trod_string ht h
  exact ⟨s, rfl, by unfold maxLen at hs; omega⟩
theorem choose_list {α : Type} {n : Nat} {p : Nat → α → Prop} (h : ∀ i, i < n → ∃ x, p i x) : ∃ l : List α, l.length = n ∧ ∀ i x, l[i]? = some x → p i x := by
  induction n with
  | zero => exact ⟨[], rfl, fun i x hx => by simp at hx⟩
  | succ n ih =>
    obtain ⟨l, hl, hp⟩ := ih (fun i hi => h i (Nat.lt_succ_of_lt hi))
    obtain ⟨x, hx⟩ := h n (Nat.lt_succ_self n)
    refine ⟨l ++ [x], by rw [List.length_append, hl]; rfl, fun i y hy => ?_⟩
    by_cases hi : i < l.length
    · rw [List.getElem?_append_left hi] at hy
      exact hp i y hy
    · rw [List.getElem?_append_right (by omega)] at hy
      have h0 : i - l.length = 0 := by
        rcases Nat.eq_zero_or_pos (i - l.length) with h0 | h0
        · exact h0
        · rw [List.getElem?_eq_none (by simp; omega)] at hy; exact absurd hy (by simp)
      rw [h0] at hy
      obtain rfl := Option.some.inj hy
      rw [show i = n by omega]; exact hx
theorem opens_slice {α : Type} {P : Program} {t e : TypeId} {d : Kd α} {ok : α → Prop} (ht : P.underlying t = some (.slice e)) (hsz : P.cellsOf e = d.sz) (he : Opens P e d ok) :
    Opens P t (Kd.slice e d) (fun l => l.length ≤ 9223372036854775807 ∧ ∀ x ∈ l, ok x) := by
  intro H enc w spare held fuel cs x h
  rcases DataW.trod_slice ht h with ⟨rfl, _⟩ | ⟨a, len, cap, elems, rest, n, _, rfl, _, hb, hl, hm, hlen, hel, _, _⟩
  · exact ⟨[], ⟨none, 0, rfl, Nat.le_refl _, Kd.C_nil _ _⟩, by simp, by simp⟩
  · have hel2 : ∀ i, i < len → ∃ v, (∃ c, c.length = d.sz ∧ d.K w v c ∧ ∀ j u, c[j]? = some u → w.cell? (a.add (i * d.sz + j)) = some u) ∧ ok v := by
      intro i hi
      have h1 := hel i hi
      rw [List.getElem?_eq_getElem (by omega)] at h1
      obtain ⟨cs', hc, ht'⟩ := Option.bind_eq_some_iff.1 h1
      obtain ⟨v, hv, hok⟩ := he ht'
      obtain ⟨_, hcl, hcell⟩ := World.cells?_some hc
      refine ⟨v, ⟨cs', by rw [hcl, hsz], hv, fun j u hu => ?_⟩, hok⟩
      have hj : j < cs'.length := by
        rcases Nat.lt_or_ge j cs'.length with hj | hj
        · exact hj
        · rw [List.getElem?_eq_none hj] at hu; exact absurd hu (by simp)
      have h2 := hcell j (by omega)
      rw [hu, hsz] at h2
      have ha : (a.add (i * d.sz)).add j = a.add (i * d.sz + j) := by
        unfold Addr.add
        by_cases h1 : i * d.sz = 0 <;> by_cases h2 : j = 0 <;> simp [h1, h2, Nat.add_assoc]
      rwa [ha] at h2
    obtain ⟨l, hll, hlp⟩ := choose_list hel2
    refine ⟨l, ⟨some a, cap, by rw [hll], by omega, ?_⟩, by unfold maxLen at hm; omega, fun x hx => ?_⟩
    · refine ⟨rfl, by unfold maxLen at hm; omega, fun _ => ⟨a, rfl, fun j p hp => ?_⟩⟩
      exact (hlp j p hp).1
    · obtain ⟨i, hi⟩ := List.getElem?_of_mem hx
      exact (hlp i x hi).2
/-- A struct, field by field: what each field's cells hold. -/
theorem opens_field {α : Type} {P : Program} {t : TypeId} {fs : Array Field} {d : Kd α} {ok : α → Prop} (i : Nat) (f : Field) (hf : fs[i]? = some f) (ht : P.underlying t = some (.struct fs)) (he : Opens P f.type d ok)
    {H : Type} {enc : TypeId × Value → H} {w : World} {spare : Nat → Bool} {held : Bool} {fuel : Nat} {cs : List Value} {x : DataW H × List MemPlace} (h : DataW.trod enc P w 0 spare held fuel t cs = some x) :
    cs.length = P.cellsOf t ∧ ∃ v, d.K w v ((cs.drop f.offset).take (P.cellsOf f.type)) ∧ ok v := by
  obtain ⟨xs, n, _, _, hl, hxl, hx⟩ := DataW.trod_struct ht h
  refine ⟨hl, ?_⟩
  have hi : i < xs.length := by
    rw [hxl]
    exact (Array.getElem?_eq_some_iff.1 hf).1
  have h1 := hx i f hf
  rw [List.getElem?_eq_getElem hi] at h1
  exact he h1

def ok29 (x : S29) : Prop := x.f0.size ≤ 9223372036854775807 ∧ True ∧ (Lit.int .i64 x.f2).wf = true ∧ (Lit.int .i64 x.f3).wf = true
set_option maxRecDepth 100000 in
theorem opens29 : Opens Tryz.prog 29 k29 ok29 := by
  intro H enc w spare held fuel cs x h
  obtain ⟨hl, v0, K0, o0⟩ := opens_field 0 _ rfl Tryz.underlying29 (opens_string Tryz.underlying9) h
  obtain ⟨_, v1, K1, o1⟩ := opens_field 1 _ rfl Tryz.underlying29 (opens_bool Tryz.underlying4) h
  obtain ⟨_, v2, K2, o2⟩ := opens_field 2 _ rfl Tryz.underlying29 (opens_int Tryz.underlying3) h
  obtain ⟨_, v3, K3, o3⟩ := opens_field 3 _ rfl Tryz.underlying29 (opens_int Tryz.underlying3) h
  have hn : cs.length = 4 := hl.trans (by kernel_rfl)
  clear hl
  replace K0 : Kd.string.K w v0 ((cs.drop 0).take (Tryz.prog.cellsOf 9)) := K0
  rw [show Tryz.prog.cellsOf 9 = 1 from by kernel_rfl] at K0
  replace K1 : Kd.bool.K w v1 ((cs.drop 1).take (Tryz.prog.cellsOf 4)) := K1
  rw [show Tryz.prog.cellsOf 4 = 1 from by kernel_rfl] at K1
  replace K2 : (Kd.int .i64).K w v2 ((cs.drop 2).take (Tryz.prog.cellsOf 3)) := K2
  rw [show Tryz.prog.cellsOf 3 = 1 from by kernel_rfl] at K2
  replace K3 : (Kd.int .i64).K w v3 ((cs.drop 3).take (Tryz.prog.cellsOf 3)) := K3
  rw [show Tryz.prog.cellsOf 3 = 1 from by kernel_rfl] at K3
  obtain ⟨c0, c1, c2, c3, rfl⟩ : ∃ c0 c1 c2 c3, cs = [c0, c1, c2, c3] := by
    match cs, hn with
    | [c0, c1, c2, c3], _ => exact ⟨_, _, _, _, rfl⟩
  replace K0 : [c0] = [.string v0] := K0
  injection K0 with K0 _
  subst K0
  replace K1 : [c1] = [.bool v1] := K1
  injection K1 with K1 _
  subst K1
  replace K2 : [c2] = [.int .i64 v2] := K2
  injection K2 with K2 _
  subst K2
  replace K3 : [c3] = [.int .i64 v3] := K3
  injection K3 with K3 _
  subst K3
  exact ⟨⟨v0, v1, v2, v3⟩, k29_mk w _ , ⟨o0, o1, o2, o3⟩⟩
end Go.Proofs.YtgapkicplhbidaaGreatDoor.PQup

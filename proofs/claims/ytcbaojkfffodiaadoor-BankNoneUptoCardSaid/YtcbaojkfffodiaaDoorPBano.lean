/- Written by wip/myrow.py: what the laws' arguments hold, out of what they read as. No condition. -/
import Derived.Test.YtcbaojkfffodiaaDoorPBanx0
import Derived.ChangeArms
import Derived.DataReads
import Derived.Test.YtcbaojkfffodiaaDoorRows
namespace Go.Proofs.YtcbaojkfffodiaaDoor.PBan
open Go.RowKit Go.Proofs.YtcbaojkfffodiaaDoorW.PrintWords Go.Proofs.YtcbaojkfffodiaaDoorW.PrintLast
set_option linter.unusedVariables false
set_option linter.unusedSimpArgs false
/-! ### from what an argument reads as to what its cells hold -/
/-- Cells that read as a datum of type t hold a value of kind d, of which ok is known. -/
def Opens {α : Type} (P : Program) (t : TypeId) (d : Kd α) (ok : α → Prop) : Prop :=
  ∀ {H : Type} {enc : TypeId × Value → H} {w : World} {spare : Nat → Bool} {held : Bool} {fuel : Nat} {cs : List Value} {x : DataW H × List MemPlace},
    DataW.trod enc P w 0 spare held fuel t cs = some x → ∃ v, d.K w v cs ∧ ok v
theorem opens_int {P : Program} {t : TypeId} {k : IntKind} (ht : P.underlying t = some (.int k)) : Opens P t (Kd.int k) (fun n => (Lit.int k n).wf = true) := by
  intro H enc w spare held fuel cs x h
  obtain ⟨n, rfl, _, hw⟩ := DataW.trod_int ht h
  exact ⟨n, rfl, hw⟩
theorem opens_bool {P : Program} {t : TypeId} (ht : P.underlying t = some .bool) : Opens P t Kd.bool (fun _ => True) := by
  intro H enc w spare held fuel cs x h
  obtain ⟨b, rfl, _⟩ := DataW.trod_bool ht h
  exact ⟨b, rfl, trivial⟩
theorem opens_string {P : Program} {t : TypeId} (ht : P.underlying t = some .string) : Opens P t Kd.string (fun s => s.size ≤ 9223372036854775807) := by
  intro H enc w spare held fuel cs x h
  obtain ⟨s, rfl, _, hs⟩ := DataW.trod_string ht h
  exact ⟨s, rfl, by unfold maxLen at hs; omega⟩
theorem choose_list {α : Type} {n : Nat} {p : Nat → α → Prop} (h : ∀ i, i < n → ∃ x, p i x) : ∃ l : List α, l.length = n ∧ ∀ i x, l[i]? = some x → p i x := by
  induction n with
  | zero => exact ⟨[], rfl, fun i x hx => by simp at hx⟩
  | succ n ih =>
    obtain ⟨l, hl, hp⟩ := ih (fun i hi => h i (Nat.lt_succ_of_lt hi))
    obtain ⟨x, hx⟩ := h n (Nat.lt_succ_self n)
    refine ⟨l ++ [x], by rw [List.length_append, hl]; rfl, fun i y hy => ?_⟩
    by_cases hi : i < l.length
    · rw [List.getElem?_append_left hi] at hy
      exact hp i y hy
    · rw [List.getElem?_append_right (by omega)] at hy
      have h0 : i - l.length = 0 := by
        rcases Nat.eq_zero_or_pos (i - l.length) with h0 | h0
        · exact h0
        · rw [List.getElem?_eq_none (by simp; omega)] at hy; exact absurd hy (by simp)
      rw [h0] at hy
      obtain rfl := Option.some.inj hy
      rw [show i = n by omega]; exact hx
theorem opens_slice {α : Type} {P : Program} {t e : TypeId} {d : Kd α} {ok : α → Prop} (ht : P.underlying t = some (.slice e)) (hsz : P.cellsOf e = d.sz) (he : Opens P e d ok) :
    Opens P t (Kd.slice e d) (fun l => l.length ≤ 9223372036854775807 ∧ ∀ x ∈ l, ok x) := by
  intro H enc w spare held fuel cs x h
  rcases DataW.trod_slice ht h with ⟨rfl, _⟩ | ⟨a, len, cap, elems, rest, n, _, rfl, _, hb, hl, hm, hlen, hel, _, _⟩
  · exact ⟨[], ⟨none, 0, rfl, Nat.le_refl _, Kd.C_nil _ _⟩, by simp, by simp⟩
  · have hel2 : ∀ i, i < len → ∃ v, (∃ c, c.length = d.sz ∧ d.K w v c ∧ ∀ j u, c[j]? = some u → w.cell? (a.add (i * d.sz + j)) = some u) ∧ ok v := by
      intro i hi
      have h1 := hel i hi
      rw [List.getElem?_eq_getElem (by omega)] at h1
      obtain ⟨cs', hc, ht'⟩ := Option.bind_eq_some_iff.1 h1
      obtain ⟨v, hv, hok⟩ := he ht'
      obtain ⟨_, hcl, hcell⟩ := World.cells?_some hc
      refine ⟨v, ⟨cs', by rw [hcl, hsz], hv, fun j u hu => ?_⟩, hok⟩
      have hj : j < cs'.length := by
        rcases Nat.lt_or_ge j cs'.length with hj | hj
        · exact hj
        · rw [List.getElem?_eq_none hj] at hu; exact absurd hu (by simp)
      have h2 := hcell j (by omega)
      rw [hu, hsz] at h2
      have ha : (a.add (i * d.sz)).add j = a.add (i * d.sz + j) := by
        unfold Addr.add
        by_cases h1 : i * d.sz = 0 <;> by_cases h2 : j = 0 <;> simp [h1, h2, Nat.add_assoc]
      rwa [ha] at h2
    obtain ⟨l, hll, hlp⟩ := choose_list hel2
    refine ⟨l, ⟨some a, cap, by rw [hll], by omega, ?_⟩, by unfold maxLen at hm; omega, fun x hx => ?_⟩
    · refine ⟨rfl, by unfold maxLen at hm; omega, fun _ => ⟨a, rfl, fun j p hp => ?_⟩⟩
      exact (hlp j p hp).1
    · obtain ⟨i, hi⟩ := List.getElem?_of_mem hx
      exact (hlp i x hi).2
/-- A struct, field by field: what each field's cells hold. -/
theorem opens_field {α : Type} {P : Program} {t : TypeId} {fs : Array Field} {d : Kd α} {ok : α → Prop} (i : Nat) (f : Field) (hf : fs[i]? = some f) (ht : P.underlying t = some (.struct fs)) (he : Opens P f.type d ok)
    {H : Type} {enc : TypeId × Value → H} {w : World} {spare : Nat → Bool} {held : Bool} {fuel : Nat} {cs : List Value} {x : DataW H × List MemPlace} (h : DataW.trod enc P w 0 spare held fuel t cs = some x) :
    cs.length = P.cellsOf t ∧ ∃ v, d.K w v ((cs.drop f.offset).take (P.cellsOf f.type)) ∧ ok v := by
  obtain ⟨xs, n, _, _, hl, hxl, hx⟩ := DataW.trod_struct ht h
  refine ⟨hl, ?_⟩
  have hi : i < xs.length := by
    rw [hxl]
    exact (Array.getElem?_eq_some_iff.1 hf).1
  have h1 := hx i f hf
  rw [List.getElem?_eq_getElem hi] at h1
  exact he h1

/-! ### from what an argument reads as to what its cells hold, and how much it may be at most (for the second form's rows) -/
theorem bulk_one {H : Type} (d : DataW H) : 1 ≤ Rows.uptoBulk d := by
  cases d with
  | lit l => cases l <;> simp [Rows.uptoBulk]
  | nil => simp [Rows.uptoBulk]
  | ptr d => simp [Rows.uptoBulk]
  | slice elems spare => simp [Rows.uptoBulk]
  | agg parts => simp [Rows.uptoBulk]
  | iface t d => simp [Rows.uptoBulk]
  | map entries => simp [Rows.uptoBulk]
  | held h => simp [Rows.uptoBulk]
theorem bulk_part {H : Type} {d : DataW H} {l : List (DataW H)} (h : d ∈ l) : Rows.uptoBulk d ≤ Rows.uptoBulkAll l := by
  induction l with
  | nil => cases h
  | cons x r ih =>
    simp only [Rows.uptoBulkAll]
    cases List.mem_cons.1 h with
    | inl e => subst e; omega
    | inr e => have := ih e; omega
theorem bulk_length {H : Type} (l : List (DataW H)) : l.length ≤ Rows.uptoBulkAll l := by
  induction l with
  | nil => simp [Rows.uptoBulkAll]
  | cons x r ih => have := bulk_one x; simp only [Rows.uptoBulkAll, List.length_cons]; omega
/-- Cells that read as a datum of type t hold a value of kind d; of it, and of the datum's bulk, ok is known. -/
def OpensB {α : Type} (P : Program) (t : TypeId) (d : Kd α) (ok : Nat → α → Prop) : Prop :=
  (∀ b b' x, b ≤ b' → ok b x → ok b' x) ∧ ∀ {H : Type} {enc : TypeId × Value → H} {w : World} {spare : Nat → Bool} {held : Bool} {fuel : Nat} {cs : List Value} {x : DataW H × List MemPlace},
    DataW.trod enc P w 0 spare held fuel t cs = some x → ∃ v, d.K w v cs ∧ ok (Rows.uptoBulk x.1) v
theorem opensb_int {P : Program} {t : TypeId} {k : IntKind} (ht : P.underlying t = some (.int k)) : OpensB P t (Kd.int k) (fun _ n => (Lit.int k n).wf = true) := by
  refine ⟨fun _ _ _ _ h => h, ?_⟩
  intro H enc w spare held fuel cs x h
  obtain ⟨n, rfl, _, hw⟩ := DataW.trod_int ht h
  exact ⟨n, rfl, hw⟩
theorem opensb_bool {P : Program} {t : TypeId} (ht : P.underlying t = some .bool) : OpensB P t Kd.bool (fun _ _ => True) := by
  refine ⟨fun _ _ _ _ h => h, ?_⟩
  intro H enc w spare held fuel cs x h
  obtain ⟨b, rfl, _⟩ := DataW.trod_bool ht h
  exact ⟨b, rfl, trivial⟩
theorem opensb_string {P : Program} {t : TypeId} (ht : P.underlying t = some .string) : OpensB P t Kd.string (fun b s => s.size ≤ b) := by
  refine ⟨fun _ _ _ hb h => Nat.le_trans h hb, ?_⟩
  intro H enc w spare held fuel cs x h
  obtain ⟨s, rfl, rfl, _⟩ := DataW.trod_string ht h
  refine ⟨s, rfl, ?_⟩
  simp only [Rows.uptoBulk]
  rw [Array.length_toList]
  exact Nat.le_succ _
theorem opensb_slice {α : Type} {P : Program} {t e : TypeId} {d : Kd α} {ok : Nat → α → Prop} (ht : P.underlying t = some (.slice e)) (hsz : P.cellsOf e = d.sz) (he : OpensB P e d ok) :
    OpensB P t (Kd.slice e d) (fun b l => l.length ≤ b ∧ ∀ x ∈ l, ok b x) := by
  refine ⟨fun b b' x hb h => ⟨Nat.le_trans h.1 hb, fun y hy => he.1 b b' y hb (h.2 y hy)⟩, ?_⟩
  intro H enc w spare held fuel cs x h
  rcases DataW.trod_slice ht h with ⟨rfl, _⟩ | ⟨a, len, cap, elems, rest, n, _, rfl, hx, hb, hl, hm, hlen, hel, _, _⟩
  · exact ⟨[], ⟨none, 0, rfl, Nat.le_refl _, Kd.C_nil _ _⟩, by simp, by simp⟩
  · have hbe : Rows.uptoBulkAll (elems.map (·.1)) ≤ Rows.uptoBulk x.1 := by rw [hx]; simp only [Rows.uptoBulk]; omega
    have hel2 : ∀ i, i < len → ∃ v, (∃ c, c.length = d.sz ∧ d.K w v c ∧ ∀ j u, c[j]? = some u → w.cell? (a.add (i * d.sz + j)) = some u) ∧ ok (Rows.uptoBulk x.1) v := by
      intro i hi
      have h1 := hel i hi
      rw [List.getElem?_eq_getElem (by omega)] at h1
      obtain ⟨cs', hc, ht'⟩ := Option.bind_eq_some_iff.1 h1
      obtain ⟨v, hv, hok⟩ := he.2 ht'
      have hok2 := he.1 _ _ v (Nat.le_trans (bulk_part (List.mem_map.2 ⟨_, List.getElem_mem (by omega), rfl⟩)) hbe) hok
      obtain ⟨_, hcl, hcell⟩ := World.cells?_some hc
      refine ⟨v, ⟨cs', by rw [hcl, hsz], hv, fun j u hu => ?_⟩, hok2⟩
      have hj : j < cs'.length := by
        rcases Nat.lt_or_ge j cs'.length with hj | hj
        · exact hj
        · rw [List.getElem?_eq_none hj] at hu; exact absurd hu (by simp)
      have h2 := hcell j (by omega)
      rw [hu, hsz] at h2
      have ha : (a.add (i * d.sz)).add j = a.add (i * d.sz + j) := by
        unfold Addr.add
        by_cases h1 : i * d.sz = 0 <;> by_cases h2 : j = 0 <;> simp [h1, h2, Nat.add_assoc]
      rwa [ha] at h2
    obtain ⟨l, hll, hlp⟩ := choose_list hel2
    have hle := bulk_length (elems.map (·.1))
    rw [List.length_map] at hle
    refine ⟨l, ⟨some a, cap, by rw [hll], by omega, ?_⟩, by omega, fun y hy => ?_⟩
    · refine ⟨rfl, by unfold maxLen at hm; omega, fun _ => ⟨a, rfl, fun j p hp => ?_⟩⟩
      exact (hlp j p hp).1
    · obtain ⟨i, hi⟩ := List.getElem?_of_mem hy
      exact (hlp i y hi).2
/-- A struct, field by field: what each field's cells hold. -/
theorem opensb_field {α : Type} {P : Program} {t : TypeId} {fs : Array Field} {d : Kd α} {ok : Nat → α → Prop} (i : Nat) (f : Field) (hf : fs[i]? = some f) (ht : P.underlying t = some (.struct fs)) (he : OpensB P f.type d ok)
    {H : Type} {enc : TypeId × Value → H} {w : World} {spare : Nat → Bool} {held : Bool} {fuel : Nat} {cs : List Value} {x : DataW H × List MemPlace} (h : DataW.trod enc P w 0 spare held fuel t cs = some x) :
    cs.length = P.cellsOf t ∧ ∃ v, d.K w v ((cs.drop f.offset).take (P.cellsOf f.type)) ∧ ok (Rows.uptoBulk x.1) v := by
  obtain ⟨xs, n, _, hx0, hl, hxl, hx⟩ := DataW.trod_struct ht h
  refine ⟨hl, ?_⟩
  have hi : i < xs.length := by
    rw [hxl]
    exact (Array.getElem?_eq_some_iff.1 hf).1
  have h1 := hx i f hf
  rw [List.getElem?_eq_getElem hi] at h1
  obtain ⟨v, hv, hok⟩ := he.2 h1
  refine ⟨v, hv, he.1 _ _ v ?_ hok⟩
  rw [hx0]
  simp only [Rows.uptoBulk]
  exact Nat.le_trans (bulk_part (List.mem_map.2 ⟨_, List.getElem_mem hi, rfl⟩)) (Nat.le_succ _)

def ok60 (x : S60) : Prop := (Lit.int .i64 x.f0).wf = true ∧ x.f1.size ≤ 9223372036854775807 ∧ x.f2.size ≤ 9223372036854775807 ∧ (Lit.int .i64 x.f3).wf = true
set_option maxRecDepth 100000 in
theorem opens60 : Opens Tryd.prog 60 k60 ok60 := by
  intro H enc w spare held fuel cs x h
  obtain ⟨hl, v0, K0, o0⟩ := opens_field 0 _ rfl Tryd.underlying60 (opens_int Tryd.underlying3) h
  obtain ⟨_, v1, K1, o1⟩ := opens_field 1 _ rfl Tryd.underlying60 (opens_string Tryd.underlying9) h
  obtain ⟨_, v2, K2, o2⟩ := opens_field 2 _ rfl Tryd.underlying60 (opens_string Tryd.underlying9) h
  obtain ⟨_, v3, K3, o3⟩ := opens_field 3 _ rfl Tryd.underlying60 (opens_int Tryd.underlying3) h
  have hn : cs.length = 4 := hl.trans (by kernel_rfl)
  clear hl
  replace K0 : (Kd.int .i64).K w v0 ((cs.drop 0).take (Tryd.prog.cellsOf 3)) := K0
  rw [show Tryd.prog.cellsOf 3 = 1 from by kernel_rfl] at K0
  replace K1 : Kd.string.K w v1 ((cs.drop 1).take (Tryd.prog.cellsOf 9)) := K1
  rw [show Tryd.prog.cellsOf 9 = 1 from by kernel_rfl] at K1
  replace K2 : Kd.string.K w v2 ((cs.drop 2).take (Tryd.prog.cellsOf 9)) := K2
  rw [show Tryd.prog.cellsOf 9 = 1 from by kernel_rfl] at K2
  replace K3 : (Kd.int .i64).K w v3 ((cs.drop 3).take (Tryd.prog.cellsOf 3)) := K3
  rw [show Tryd.prog.cellsOf 3 = 1 from by kernel_rfl] at K3
  obtain ⟨c0, c1, c2, c3, rfl⟩ : ∃ c0 c1 c2 c3, cs = [c0, c1, c2, c3] := by
    match cs, hn with
    | [c0, c1, c2, c3], _ => exact ⟨_, _, _, _, rfl⟩
  replace K0 : [c0] = [.int .i64 v0] := K0
  injection K0 with K0 _
  subst K0
  replace K1 : [c1] = [.string v1] := K1
  injection K1 with K1 _
  subst K1
  replace K2 : [c2] = [.string v2] := K2
  injection K2 with K2 _
  subst K2
  replace K3 : [c3] = [.int .i64 v3] := K3
  injection K3 with K3 _
  subst K3
  exact ⟨⟨v0, v1, v2, v3⟩, k60_mk w _ , ⟨o0, o1, o2, o3⟩⟩
def okb60 (b : Nat) (x : S60) : Prop := (Lit.int .i64 x.f0).wf = true ∧ x.f1.size ≤ b ∧ x.f2.size ≤ b ∧ (Lit.int .i64 x.f3).wf = true
set_option maxRecDepth 100000 in
theorem opensb60 : OpensB Tryd.prog 60 k60 okb60 := by
  refine ⟨fun b b' x hb h => ⟨((opensb_int Tryd.underlying3)).1 _ _ _ hb h.1, ((opensb_string Tryd.underlying9)).1 _ _ _ hb h.2.1, ((opensb_string Tryd.underlying9)).1 _ _ _ hb h.2.2.1, ((opensb_int Tryd.underlying3)).1 _ _ _ hb h.2.2.2⟩, ?_⟩
  intro H enc w spare held fuel cs x h
  obtain ⟨hl, v0, K0, o0⟩ := opensb_field 0 _ rfl Tryd.underlying60 (opensb_int Tryd.underlying3) h
  obtain ⟨_, v1, K1, o1⟩ := opensb_field 1 _ rfl Tryd.underlying60 (opensb_string Tryd.underlying9) h
  obtain ⟨_, v2, K2, o2⟩ := opensb_field 2 _ rfl Tryd.underlying60 (opensb_string Tryd.underlying9) h
  obtain ⟨_, v3, K3, o3⟩ := opensb_field 3 _ rfl Tryd.underlying60 (opensb_int Tryd.underlying3) h
  have hn : cs.length = 4 := hl.trans (by kernel_rfl)
  clear hl
  replace K0 : (Kd.int .i64).K w v0 ((cs.drop 0).take (Tryd.prog.cellsOf 3)) := K0
  rw [show Tryd.prog.cellsOf 3 = 1 from by kernel_rfl] at K0
  replace K1 : Kd.string.K w v1 ((cs.drop 1).take (Tryd.prog.cellsOf 9)) := K1
  rw [show Tryd.prog.cellsOf 9 = 1 from by kernel_rfl] at K1
  replace K2 : Kd.string.K w v2 ((cs.drop 2).take (Tryd.prog.cellsOf 9)) := K2
  rw [show Tryd.prog.cellsOf 9 = 1 from by kernel_rfl] at K2
  replace K3 : (Kd.int .i64).K w v3 ((cs.drop 3).take (Tryd.prog.cellsOf 3)) := K3
  rw [show Tryd.prog.cellsOf 3 = 1 from by kernel_rfl] at K3
  obtain ⟨c0, c1, c2, c3, rfl⟩ : ∃ c0 c1 c2 c3, cs = [c0, c1, c2, c3] := by
    match cs, hn with
    | [c0, c1, c2, c3], _ => exact ⟨_, _, _, _, rfl⟩
  replace K0 : [c0] = [.int .i64 v0] := K0
  injection K0 with K0 _
  subst K0
  replace K1 : [c1] = [.string v1] := K1
  injection K1 with K1 _
  subst K1
  replace K2 : [c2] = [.string v2] := K2
  injection K2 with K2 _
  subst K2
  replace K3 : [c3] = [.int .i64 v3] := K3
  injection K3 with K3 _
  subst K3
  exact ⟨⟨v0, v1, v2, v3⟩, k60_mk w _ , ⟨o0, o1, o2, o3⟩⟩
end Go.Proofs.YtcbaojkfffodiaaDoor.PBan

-- written by wip/myprint.py over the kit's print; not a printed text of print.sh
import Derived.Test.YtonipkgekhdogaaGreatDoorPBasx0
import Derived.Test.YtonipkgekhdogaaGreatDoorPBasx2
import Derived.Test.YtonipkgekhdogaaGreatDoorPBasx3
import Derived.Test.YtonipkgekhdogaaGreatDoorPBasx4
import Derived.Test.YtonipkgekhdogaaGreatDoorPBasx5
import Derived.Test.YtonipkgekhdogaaGreatDoorPBasx6
import Derived.Test.YtonipkgekhdogaaGreatDoorPBasx7
import Derived.Test.YtonipkgekhdogaaGreatDoorPBasx8
namespace Go.Proofs.YtonipkgekhdogaaGreatDoor.PBas
open Go.RowKit Go.Proofs.YtonipkgekhdogaaGreatDoorW.PrintWords Go.Proofs.YtonipkgekhdogaaGreatDoorW.PrintLast Go.Proofs.YtonipkgekhdogaaGreatDoorW.PrintMore
attribute [local go_sem] max2_int min2_int max_two min_two max_three min_three max_four min_four   -- for this text's walks alone
set_option linter.unusedVariables false
set_option linter.unusedSimpArgs false

/-! ### journal_Journal_Get: function 41 -/
set_option maxHeartbeats 1000000 in
set_option maxRecDepth 100000 in
theorem j_get (base g : Nat) (ok : Nat → Prop) (st : JSt) (key : ByteArray) (w : World) (h : JM base ok g st w) (hl : st.cur.length ≤ 1000000000) :
    Calls Tryz.prog 41 #[.pointer (some ⟨g, 0, none⟩), .string key] w fun e w' => e = .returned (.tuple #[.string (getK st.cur key).1, .bool (getK st.cur key).2]) ∧ Below w.heap.size w w' := by
  obtain ⟨gs, sv, lvv, vs, h⟩ := h
  have y0 : w.cell? ⟨g, 0, none⟩ = some (.pointer (some ⟨gs, 0, none⟩)) := (blk_cell h.blk 0).trans rfl
  have hst := h.store
  clear h
  go_enter Tryz.func41, Tryz.ntmps41
  go_wp2_with fail
  refine (st_get base gs st.cur key _ hst.at_ hl).mono ?_
  rintro e w2 ⟨rfl, hb⟩
  go_wp2
  go_ret2
  exact ⟨rfl, hb⟩
set_option maxHeartbeats 1000000 in
set_option maxRecDepth 100000 in
theorem j_list (base g : Nat) (ok : Nat → Prop) (st : JSt) (w : World) (h : JM base ok g st w) (hl : st.cur.length ≤ 1000000000) :
    Calls Tryz.prog 15 #[.pointer (some ⟨g, 0, none⟩)] w fun e w' => ∃ v', e = .returned v' ∧ w'.ownsRow w.heap.size 73 2 v' st.cur.length (encP st.cur) ∧ Below w.heap.size w w' := by
  obtain ⟨gs, sv, lvv, vs, h⟩ := h
  have y0 : w.cell? ⟨g, 0, none⟩ = some (.pointer (some ⟨gs, 0, none⟩)) := (blk_cell h.blk 0).trans rfl
  have hst := h.store
  clear h
  go_enter Tryz.func15, Tryz.ntmps15
  go_wp2_with fail
  refine (st_list base gs sv st.cur _ hst hl).mono ?_
  rintro e w2 ⟨v2, rfl, o2, hb⟩
  go_wp2
  go_ret
  exact ⟨_, rfl, o2, hb⟩
theorem lv_append (base : Nat) (lvv : Value) (n : Nat) (vs : List Value) (w : World) (ho : w.ownsRow base 137 1 lvv n vs) (hn : n ≤ 1000000) (hb : base ≤ w.heap.size) (b : Nat) (v : Value) (hbk : w.heap[b]? = some (.cells #[v] 137 (0, 0))) (h1 : v.oneCell' = true) (ty : TypeId) :
    ∃ v1 w1, (Builtin.append_ #[57, 57] ty #[lvv, .slice (some ⟨b, 0, none⟩) 1 1]).run Tryz.prog w = .ok v1 w1 ∧ w1.ownsRow base 137 1 v1 (n + 1) (vs ++ [v]) ∧ w.grownBy w1 lvv.ownBlock ∧ (v1.ownBlock = lvv.ownBlock ∨ ∃ b, v1.ownBlock = some b ∧ w.heap.size ≤ b) := by
  obtain ⟨i0, hi0, hz⟩ := Option.map_eq_some_iff.1 info137
  simp only [Prod.mk.injEq] at hz
  obtain ⟨hz0, hz1, hz2⟩ := hz
  obtain ⟨v1, w1, hrun, a1, a2, _, a3⟩ := run_append_own_at (P := Tryz.prog) (w := w) base 57 ty 137 i0 _ 1 24 Tryz.underlying57 hi0 hz0 hz1 hz2 rfl (by decide) lvv n vs ho ⟨b, 0, none⟩ 1 1 [v] rfl
    (fun j u hj => by
      match j with
      | 0 => obtain rfl := Option.some.inj hj; exact (blk_cell hbk 0).trans rfl
      | j + 1 => exact absurd hj (by simp)) (by intro u hu; rw [List.mem_singleton.1 hu]; exact h1) (by unfold maxLen; omega) (by omega) hb
  exact ⟨v1, w1, hrun, a1, a2, a3.imp_right (fun h => ⟨_, h, Nat.le_refl _⟩)⟩
theorem lvl_append (base : Nat) (v : Value) (l : List S139) (u : S139) (w : World) (ho : w.ownsRow base 139 3 v l.length (encU l)) (hn : l.length ≤ 1000000) (hb : base ≤ w.heap.size) (b : Nat) (hbk : w.heap[b]? = some (.cells #[.string u.f0, .string u.f1, .bool u.f2] 139 (0, 0))) (ty : TypeId) :
    ∃ v1 w1, (Builtin.append_ #[137, 137] ty #[v, .slice (some ⟨b, 0, none⟩) 1 1]).run Tryz.prog w = .ok v1 w1 ∧ w1.ownsRow base 139 3 v1 (l ++ [u]).length (encU (l ++ [u])) ∧ w.grownBy w1 v.ownBlock ∧ (v1.ownBlock = v.ownBlock ∨ ∃ b, v1.ownBlock = some b ∧ w.heap.size ≤ b) := by
  obtain ⟨i0, hi0, hz⟩ := Option.map_eq_some_iff.1 info139
  simp only [Prod.mk.injEq] at hz
  obtain ⟨hz0, hz1, hz2⟩ := hz
  obtain ⟨v1, w1, hrun, a1, a2, _, a3⟩ := run_append_own_at (P := Tryz.prog) (w := w) base 137 ty 139 i0 _ 3 40 Tryz.underlying137 hi0 hz0 hz1 hz2 rfl (by decide) v l.length (encU l) ho ⟨b, 0, none⟩ 1 1 [.string u.f0, .string u.f1, .bool u.f2] rfl
    (fun j x hj => by
      match j with
      | 0 => obtain rfl := Option.some.inj hj; exact (blk_cell hbk 0).trans rfl
      | 1 => obtain rfl := Option.some.inj hj; exact (blk_cell hbk 1).trans rfl
      | 2 => obtain rfl := Option.some.inj hj; exact (blk_cell hbk 2).trans rfl
      | j + 3 => exact absurd hj (by simp)) (by intro x hx; simp at hx; rcases hx with rfl | rfl | rfl <;> rfl) (by unfold maxLen; omega) (by omega) hb
  refine ⟨v1, w1, hrun, ?_, a2, a3.imp_right (fun h => ⟨_, h, Nat.le_refl _⟩)⟩
  rw [List.length_append, List.length_singleton, encU_append]
  exact a1
set_option maxHeartbeats 1000000 in
set_option maxRecDepth 100000 in
theorem j_note (base g : Nat) (ok : Nat → Prop) (st : JSt) (key : ByteArray) (w : World) (h : JM base ok g st w) (hl : st.cur.length ≤ 1000000000) (hn : st.lv.length ≤ 1000000) (hm : ∀ l ∈ st.lv, l.length ≤ 1000000) (hb : base ≤ w.heap.size) :
    Calls Tryz.prog 85 #[.pointer (some ⟨g, 0, none⟩), .string key] w (JPost base ok g (noteJ st key) (.tuple #[]) w) := by
  obtain ⟨gs, sv, lvv, vs, h⟩ := h
  obtain ⟨A, c, rfl, hnc, hc63⟩ := row_slice h.lv.own
  have y1 : w.cell? ⟨g, 1, none⟩ = some (.slice A st.lv.length c) := (blk_cell h.blk 1).trans rfl
  have y0 : w.cell? ⟨g, 0, none⟩ = some (.pointer (some ⟨gs, 0, none⟩)) := (blk_cell h.blk 0).trans rfl
  by_cases h0 : st.lv.length = 0
  · have e : noteJ st key = st := by
      unfold noteJ
      rw [List.length_eq_zero_iff.1 h0]
      exact congrArg (JSt.mk st.cur) (List.length_eq_zero_iff.1 h0).symm
    rw [e]
    have hfin : JPost base ok g st (.tuple #[]) w (.returned (.tuple #[])) w := ⟨rfl, ⟨_, _, _, _, h.mono (fun k hk => .inl hk)⟩, JW.of_below (Below.refl _ _)⟩
    replace hfin := Aside0.mk hfin
    clear h
    rw [h0] at y1
    go_enter Tryz.func85, Tryz.ntmps85
    go_wp2
    go_end0
    exact hfin.out
  · go_enter Tryz.func85, Tryz.ntmps85
    go_wp2_with fail
    refine (st_get base gs st.cur key _ h.store.at_ hl).mono ?_
    rintro e w2 ⟨rfl, hb2⟩
    have h2 := h.step hb2
    obtain ⟨b, rfl⟩ : ∃ b, A = some ⟨b, 0, none⟩ := by
      rcases h.lv.own.2 with ⟨e, hx⟩ | ⟨b, _, _, e, _⟩
      · omega
      · injection e with e; exact ⟨b, e⟩
    obtain ⟨i, hi⟩ : ∃ i, st.lv.length = i + 1 := ⟨st.lv.length - 1, by omega⟩
    have hiv : i < vs.length := by rw [h.lv.len]; omega
    have ev : vs[i]? = some vs[i] := List.getElem?_eq_getElem hiv
    obtain ⟨l, el, ol⟩ := h2.lv.get ev
    have cv : w2.cell? ⟨b, i, none⟩ = some vs[i] := by
      have := h2.lv.own.cells (g := b) rfl i vs[i] ev
      rwa [add_plain] at this
    have hll : l.length ≤ 1000000 := hm l (List.mem_of_getElem? el)
    have x1 : w2.cell? ⟨g, 1, none⟩ = some (.slice (some ⟨b, 0, none⟩) (i + 1) c) := by rw [← hi]; exact (blk_cell h2.blk 1).trans rfl
    rw [hi]
    have hwi : IntKind.i64.wrap (i : Int) = (i : Int) := by rw [i64_w]; unfold wrap64; omega
    go_upto_region 3 with (fail)
    refine start_ (n := 22) (S := fun w' => w'.cell? ⟨g, 1, none⟩ = some (.slice (some ⟨b, 0, none⟩) (i + 1) c) ∧ w'.cell? ⟨b, i, none⟩ = some vs[i]) (ds := [21]) #[false, false, false, false, false, false, false, false, false, false, false, false, false, false, false, false, false, false, false, false, false, false] (by kernel_rfl) rfl rfl ⟨x1, cv⟩ (fun hHeld => ?_)
    have J4 := Aside0.mk (h2.step (below_drew (Below.refl _ _)))
    have W4 := Aside0.mk ((JW.of_below hb2 : JW ok w w2).trans (JW.of_below (below_drew (Below.refl _ _)) : JW ok w2 w2.drew) (fun k hk => .inl hk))
    have O4 := Aside0.mk (own_below ol (below_drew (Below.refl _ _)))
    have hsz4 : w.heap.size ≤ w2.drew.heap.size := hb2.size
    clear h h2 ol x1 cv hb2
    generalize w2.drew = w4 at hHeld J4 W4 O4 hsz4 ⊢
    refine pure_ (i := 0) (N := some 23) (v := ?_) (a' := ?_) #[true, false, false, false, false, false, false, false, false, false, false, false, false, false, false, false, false, false, false, false, false, false] rfl rfl (by kernel_rfl) (fun _ _ _ h => h) (Or.inl ⟨by rfl, ?_⟩) ?_ ?_
    rotate_left
    · intro w'
      go_simp
      with_reducible rfl
    rotate_left
    · simp only [Act.put, List.setIfInBounds_toArray, List.set_cons_zero, List.set_cons_succ, i64_w, i32_w]
      rfl
    refine pure_ (i := 1) (N := some 24) (v := ?_) (a' := ?_) #[true, true, false, false, false, false, false, false, false, false, false, false, false, false, false, false, false, false, false, false, false, false] rfl rfl (by kernel_rfl) (fun _ _ _ h => h) (Or.inl ⟨by rfl, ?_⟩) ?_ ?_
    rotate_left
    · intro w'
      go_simp
      with_reducible rfl
    rotate_left
    · simp only [Act.put, List.setIfInBounds_toArray, List.set_cons_zero, List.set_cons_succ, i64_w, i32_w]
      rfl
    refine pure_ (i := 2) (N := some 25) (v := ?_) (a' := ?_) #[true, true, true, false, false, false, false, false, false, false, false, false, false, false, false, false, false, false, false, false, false, false] rfl rfl (by kernel_rfl) (fun _ _ _ h => h) (Or.inl ⟨by rfl, ?_⟩) ?_ ?_
    rotate_left
    · intro w'
      go_simp
      with_reducible rfl
    rotate_left
    · simp only [Act.put, List.setIfInBounds_toArray, List.set_cons_zero, List.set_cons_succ, i64_w, i32_w]
      rfl
    refine take_ (i := 3) (N := some 26) (v := ?_) (a' := ?_) #[true, true, true, true, false, false, false, false, false, false, false, false, false, false, false, false, false, false, false, false, false, false] rfl rfl (by kernel_rfl) (fun _ _ _ h => h) (Or.inl ⟨by rfl, ?_⟩) hHeld ?_ ?_
    rotate_left
    · rintro w' ⟨s0, s1⟩
      go_simp
      with_reducible rfl
    rotate_left
    · simp only [Act.put, List.setIfInBounds_toArray, List.set_cons_zero, List.set_cons_succ, i64_w, i32_w]
      rfl
    refine pure_ (i := 4) (N := some 27) (v := ?_) (a' := ?_) #[true, true, true, true, true, false, false, false, false, false, false, false, false, false, false, false, false, false, false, false, false, false] rfl rfl (by kernel_rfl) (fun _ _ _ h => h) (Or.inl ⟨by rfl, ?_⟩) ?_ ?_
    rotate_left
    · intro w'
      go_simp
      with_reducible rfl
    rotate_left
    · simp only [Act.put, List.setIfInBounds_toArray, List.set_cons_zero, List.set_cons_succ, i64_w, i32_w]
      rfl
    refine pure_ (i := 5) (N := some 28) (v := ?_) (a' := ?_) #[true, true, true, true, true, true, false, false, false, false, false, false, false, false, false, false, false, false, false, false, false, false] rfl rfl (by kernel_rfl) (fun _ _ _ h => h) (Or.inl ⟨by rfl, ?_⟩) ?_ ?_
    rotate_left
    · intro w'
      go_simp
      try rw [hwi]
      with_reducible rfl
    rotate_left
    · simp only [Act.put, List.setIfInBounds_toArray, List.set_cons_zero, List.set_cons_succ, i64_w, i32_w]
      rfl
    refine pure_ (i := 6) (N := some 29) (v := ?_) (a' := ?_) #[true, true, true, true, true, true, true, false, false, false, false, false, false, false, false, false, false, false, false, false, false, false] rfl rfl (by kernel_rfl) (fun _ _ _ h => h) (Or.inl ⟨by rfl, ?_⟩) ?_ ?_
    rotate_left
    · intro w'
      go_simp
      with_reducible rfl
    rotate_left
    · simp only [Act.put, List.setIfInBounds_toArray, List.set_cons_zero, List.set_cons_succ, i64_w, i32_w]
      rfl
    refine pure_ (i := 7) (N := some 30) (v := ?_) (a' := ?_) #[true, true, true, true, true, true, true, true, false, false, false, false, false, false, false, false, false, false, false, false, false, false] rfl rfl (by kernel_rfl) (fun _ _ _ h => h) (Or.inl ⟨by rfl, ?_⟩) ?_ ?_
    rotate_left
    · intro w'
      go_simp
      with_reducible rfl
    rotate_left
    · simp only [Act.put, List.setIfInBounds_toArray, List.set_cons_zero, List.set_cons_succ, i64_w, i32_w]
      rfl
    refine pure_ (i := 8) (N := some 31) (v := ?_) (a' := ?_) #[true, true, true, true, true, true, true, true, true, false, false, false, false, false, false, false, false, false, false, false, false, false] rfl rfl (by kernel_rfl) (fun _ _ _ h => h) (Or.inl ⟨by rfl, ?_⟩) ?_ ?_
    rotate_left
    · intro w'
      go_simp
      with_reducible rfl
    rotate_left
    · simp only [Act.put, List.setIfInBounds_toArray, List.set_cons_zero, List.set_cons_succ, i64_w, i32_w]
      rfl
    refine take_ (i := 9) (N := some 32) (v := ?_) (a' := ?_) #[true, true, true, true, true, true, true, true, true, true, false, false, false, false, false, false, false, false, false, false, false, false] rfl rfl (by kernel_rfl) (fun _ _ _ h => h) (Or.inl ⟨by rfl, ?_⟩) hHeld ?_ ?_
    rotate_left
    · rintro w' ⟨s0, s1⟩
      go_simp
      with_reducible rfl
    rotate_left
    · simp only [Act.put, List.setIfInBounds_toArray, List.set_cons_zero, List.set_cons_succ, i64_w, i32_w]
      rfl
    refine pure_ (i := 10) (N := some 33) (v := ?_) (a' := ?_) #[true, true, true, true, true, true, true, true, true, true, true, false, false, false, false, false, false, false, false, false, false, false] rfl rfl (by kernel_rfl) (fun _ _ _ h => h) (Or.inl ⟨by rfl, ?_⟩) ?_ ?_
    rotate_left
    · intro w'
      go_simp
      with_reducible rfl
    rotate_left
    · simp only [Act.put, List.setIfInBounds_toArray, List.set_cons_zero, List.set_cons_succ, i64_w, i32_w]
      rfl
    refine pure_ (i := 11) (N := some 34) (v := ?_) (a' := ?_) #[true, true, true, true, true, true, true, true, true, true, true, true, false, false, false, false, false, false, false, false, false, false] rfl rfl (by kernel_rfl) (fun _ _ _ h => h) (Or.inl ⟨by rfl, ?_⟩) ?_ ?_
    rotate_left
    · intro w'
      go_simp
      try rw [hwi]
      with_reducible rfl
    rotate_left
    · simp only [Act.put, List.setIfInBounds_toArray, List.set_cons_zero, List.set_cons_succ, i64_w, i32_w]
      rfl
    refine pure_ (i := 12) (N := some 35) (v := ?_) (a' := ?_) #[true, true, true, true, true, true, true, true, true, true, true, true, true, false, false, false, false, false, false, false, false, false] rfl rfl (by kernel_rfl) (fun _ _ _ h => h) (Or.inl ⟨by rfl, ?_⟩) ?_ ?_
    rotate_left
    · intro w'
      go_simp
      rw [if_pos (by omega : (i : Int) < (i : Int) + 1)]
    rotate_left
    · simp only [Act.put, List.setIfInBounds_toArray, List.set_cons_zero, List.set_cons_succ, i64_w, i32_w]
      rfl
    refine take_ (i := 13) (N := some 36) (v := ?_) (a' := ?_) #[true, true, true, true, true, true, true, true, true, true, true, true, true, true, false, false, false, false, false, false, false, false] rfl rfl (by kernel_rfl) (fun _ _ _ h => h) (Or.inl ⟨by rfl, ?_⟩) hHeld ?_ ?_
    rotate_left
    · rintro w' ⟨s0, s1⟩
      go_simp
      with_reducible rfl
    rotate_left
    · simp only [Act.put, List.setIfInBounds_toArray, List.set_cons_zero, List.set_cons_succ, i64_w, i32_w]
      rfl
    refine pure_ (i := 14) (N := some 37) (v := ?_) (a' := ?_) #[true, true, true, true, true, true, true, true, true, true, true, true, true, true, true, false, false, false, false, false, false, false] rfl rfl (by kernel_rfl) (fun _ _ _ h => h) (Or.inl ⟨by rfl, ?_⟩) ?_ ?_
    rotate_left
    · intro w'
      go_simp
      with_reducible rfl
    rotate_left
    · simp only [Act.put, List.setIfInBounds_toArray, List.set_cons_zero, List.set_cons_succ, i64_w, i32_w]
      rfl
    refine pure_ (i := 15) (N := some 38) (v := ?_) (a' := ?_) #[true, true, true, true, true, true, true, true, true, true, true, true, true, true, true, true, false, false, false, false, false, false] rfl rfl (by kernel_rfl) (fun _ _ _ h => h) (Or.inl ⟨by rfl, ?_⟩) ?_ ?_
    rotate_left
    · intro w'
      go_simp
      with_reducible rfl
    rotate_left
    · simp only [Act.put, List.setIfInBounds_toArray, List.set_cons_zero, List.set_cons_succ, i64_w, i32_w]
      rfl
    refine pure_ (i := 16) (N := some 39) (v := ?_) (a' := ?_) #[true, true, true, true, true, true, true, true, true, true, true, true, true, true, true, true, true, false, false, false, false, false] rfl rfl (by kernel_rfl) (fun _ _ _ h => h) (Or.inl ⟨by rfl, ?_⟩) ?_ ?_
    rotate_left
    · intro w'
      go_simp
      with_reducible rfl
    rotate_left
    · simp only [Act.put, List.setIfInBounds_toArray, List.set_cons_zero, List.set_cons_succ, i64_w, i32_w]
      rfl
    refine pure_ (i := 17) (N := some 40) (v := ?_) (a' := ?_) #[true, true, true, true, true, true, true, true, true, true, true, true, true, true, true, true, true, true, false, false, false, false] rfl rfl (by kernel_rfl) (fun _ _ _ h => h) (Or.inl ⟨by rfl, ?_⟩) ?_ ?_
    rotate_left
    · intro w'
      go_simp
      with_reducible rfl
    rotate_left
    · simp only [Act.put, List.setIfInBounds_toArray, List.set_cons_zero, List.set_cons_succ, i64_w, i32_w]
      rfl
    refine one_ (i := 18) (N := some 41) #[true, true, true, true, true, true, true, true, true, true, true, true, true, true, true, true, true, true, true, false, false, false] rfl rfl (by kernel_rfl) (by decide) (fun K hK => ?_)
    refine value_ (w1 := ?_) (v := ?_) (by rfl) rfl ?_ ?_
    rotate_left 2
    · go_simp
      constructor
      · rfl
      · rfl
    refine hK.out _ _ ⟨(blk_cell (blk_alloc J4.out.blk _) 1).trans (by rw [hi]; rfl), Lib.cell?_alloc_some _ hHeld.2⟩ (fun hHeld => ?_)
    clear hK K
    refine norm_ (a' := ?_) ?_ ?_
    rotate_left
    · show Act.put _ (some 41) _ = _
      simp only [Act.put, List.setIfInBounds_toArray, List.set_cons_zero, List.set_cons_succ, i64_w, i32_w]
      rfl
    obtain ⟨v6, w6, hrun, o6, g6, at6⟩ := lvl_append base vs[i] l ⟨key, (getK st.cur key).1, (getK st.cur key).2⟩ (w4.alloc (.cells #[.string key, .string (getK st.cur key).1, .bool (getK st.cur key).2] 139)) (own_alloc O4.out _) hll (by rw [my_alloc_size]; omega) w4.heap.size (my_alloc_new w4 _) 137
    obtain ⟨A6, c6, rfl, _, _⟩ := row_slice o6
    have J5 := Aside0.mk (J4.out.step (below_alloc (Below.refl _ _) (.cells #[.string key, .string (getK st.cur key).1, .bool (getK st.cur key).2] 139)))
    have g5b : w6.heap[g]? = _ := (g6.block g (blk_lt J5.out.blk) (fun e => by obtain ⟨cs, hc⟩ := own_typed (own_alloc O4.out (.cells #[.string key, .string (getK st.cur key).1, .bool (getK st.cur key).2] 139)) g e.symm; exact absurd (blk_ty J5.out.blk hc) (by decide))).trans J5.out.blk
    obtain ⟨cb, hcb⟩ := own_typed J5.out.lv.own b rfl
    have b5b : w6.heap[b]? = _ := (g6.block b (blk_lt hcb) (fun e => by obtain ⟨cs, hc⟩ := own_typed (own_alloc O4.out (.cells #[.string key, .string (getK st.cur key).1, .bool (getK st.cur key).2] 139)) b e.symm; exact absurd (blk_ty hcb hc) (by decide))).trans hcb
    have cv6 : w6.cell? ⟨b, i, none⟩ = some vs[i] := (World.cell?_of_block (a := ⟨b, i, none⟩) (b5b.trans hcb.symm)).trans hHeld.2
    refine one_ (i := 19) (N := some 42) #[true, true, true, true, true, true, true, true, true, true, true, true, true, true, true, true, true, true, true, true, false, false] rfl rfl (by kernel_rfl) (by decide) (fun K hK => ?_)
    refine value_ (by rfl) rfl (exec_append _ _ _ _ rfl _ _ rfl rfl hrun) ?_
    refine hK.out _ _ ⟨(blk_cell g5b 1).trans (by rw [hi]; rfl), cv6⟩ (fun hHeld => ?_)
    clear hK K
    refine norm_ (a' := ?_) ?_ ?_
    rotate_left
    · show Act.put _ (some 42) _ = _
      simp only [Act.put, List.setIfInBounds_toArray, List.set_cons_zero, List.set_cons_succ, i64_w, i32_w]
      rfl
    refine pure_ (i := 20) (N := some 43) (v := ?_) (a' := ?_) #[true, true, true, true, true, true, true, true, true, true, true, true, true, true, true, true, true, true, true, true, true, false] rfl rfl (by kernel_rfl) (fun _ _ _ h => h) (Or.inl ⟨by rfl, ?_⟩) ?_ ?_
    rotate_left
    · intro w'
      go_simp
      rw [if_pos (by omega : (i : Int) < (i : Int) + 1)]
    rotate_left
    · simp only [Act.put, List.setIfInBounds_toArray, List.set_cons_zero, List.set_cons_succ, i64_w, i32_w]
      rfl
    refine last_ (i := 21) (N := none) #[true, true, true, true, true, true, true, true, true, true, true, true, true, true, true, true, true, true, true, true, true, true] rfl rfl (by kernel_rfl) (by decide) (fun K hK => ?_)
    have z6 := blk_frozen b5b i
    refine skip_ (w1 := w6.setCell ⟨b, i, none⟩ (.slice A6 (l ++ [(⟨key, (getK st.cur key).1, (getK st.cur key).2⟩ : S139)]).length c6)) (by rfl) rfl ?_ ?_
    · go_simp
      try rfl
    refine hK.out _ _ ?_
    refine done_ (by kernel_rfl) ?_
    have hJ := J5.out.putLv ev o6 g6 at6 rfl
    have hfin : JPost base ok g (noteJ st key) (.tuple #[]) w (.returned (.tuple #[])) (w6.setCell ⟨b, i, none⟩ (.slice A6 (l ++ [(⟨key, (getK st.cur key).1, (getK st.cur key).2⟩ : S139)]).length c6)) := by
      have e : noteJ st key = ⟨st.cur, st.lv.set i (l ++ [(⟨key, (getK st.cur key).1, (getK st.cur key).2⟩ : S139)])⟩ := by
        unfold noteJ noteU lvAt
        rw [hi, Nat.add_sub_cancel, List.getD_eq_getElem?_getD, el]; rfl
      rw [e]
      have hsz5 : w4.heap.size ≤ (w4.alloc (.cells #[.string key, .string (getK st.cur key).1, .bool (getK st.cur key).2] 139)).heap.size := by rw [my_alloc_size]; omega
      refine ⟨rfl, ⟨_, _, _, _, hJ.mono (fun k hk => hk.imp_right (fun h => by omega))⟩, ((W4.out.trans (JW.of_below (below_alloc (Below.refl _ _) _) : JW ok w4 _) (fun k hk => .inl hk)).trans (JW.of_grown g6 (fun k e => J4.out.lv.oks i _ k ev e) : JW ok _ _) (fun k hk => .inl hk)).trans (JW.set (J4.out.lv.ok0 b rfl) i _) (fun k hk => .inl hk)⟩
    replace hfin := Aside0.mk hfin
    clear hJ g6 o6 at6 J4 J5 O4 W4 hHeld b5b g5b hcb cv6
    try go_wp2
    go_end0
    exact hfin.out

/-! ### journal_Journal_note: function 85 -/

/-! ### journal_Journal_Set: function 65 -/
set_option maxHeartbeats 1000000 in
set_option maxRecDepth 100000 in
theorem j_set (base g : Nat) (ok : Nat → Prop) (st : JSt) (key value : ByteArray) (w : World) (h : JM base ok g st w) (hl : st.cur.length ≤ 1000000000) (hn : st.lv.length ≤ 1000000) (hm : ∀ l ∈ st.lv, l.length ≤ 1000000) (hb : base ≤ w.heap.size) :
    Calls Tryz.prog 65 #[.pointer (some ⟨g, 0, none⟩), .string key, .string value] w (JPost base ok g (setJ st key value) (.int .i64 (setE key value)) w) := by
  unfold setJ setE
  by_cases hbig : key.size > 65536 ∨ value.size > 65536
  · rw [if_pos hbig, if_pos hbig]
    have hfin : JPost base ok g st (.int .i64 4) w (.returned (.int .i64 4)) w := ⟨rfl, h.mono (fun k hk => .inl hk), JW.of_below (Below.refl _ _)⟩
    replace hfin := Aside0.mk hfin
    clear h
    by_cases hk : key.size > 65536
    · go_enter Tryz.func65, Tryz.ntmps65
      go_wp2
      go_ret
      exact hfin.out
    · have hv : value.size > 65536 := hbig.resolve_left hk
      go_enter Tryz.func65, Tryz.ntmps65
      go_wp2
      go_ret
      exact hfin.out
  · rw [if_neg hbig, if_neg hbig]
    have hk : ¬ 65536 < key.size := fun h => hbig (.inl h)
    have hv : ¬ 65536 < value.size := fun h => hbig (.inr h)
    have y0 : ∃ gs, w.cell? ⟨g, 0, none⟩ = some (.pointer (some ⟨gs, 0, none⟩)) := by
      obtain ⟨gs, sv, lvv, vs, h⟩ := h
      exact ⟨gs, (blk_cell h.blk 0).trans rfl⟩
    clear hbig y0
    go_enter Tryz.func65, Tryz.ntmps65
    go_wp2_with fail
    refine (j_note base g ok st key w h hl hn hm hb).mono ?_
    rintro e w2 ⟨rfl, ⟨gs, sv, lvv, vs, h2⟩, W2⟩
    have y0 : w2.cell? ⟨g, 0, none⟩ = some (.pointer (some ⟨gs, 0, none⟩)) := (blk_cell h2.blk 0).trans rfl
    replace W2 := Aside0.mk W2
    clear h
    go_wp2_with fail
    refine (st_set base gs sv (noteJ st key).cur key value _ h2.store hl (Nat.le_trans hb W2.out.size)).mono ?_
    rintro e w3 ⟨rfl, sv3, s3, W3, at3⟩
    have hfin : JPost base ok g { noteJ st key with cur := setK st.cur key value } (.int .i64 0) w (.returned (.int .i64 0)) w3 :=
      ⟨rfl, ⟨_, _, _, _, (h2.stored s3 W3 at3).mono (fun k hk => hk.elim id (fun h => .inr (Nat.le_trans W2.out.size h)))⟩, W2.out.trans (JW.of_store W3 h2.oks h2.okv) (fun k hk => hk)⟩
    replace hfin := Aside0.mk hfin
    clear h2 s3 W3 at3 W2 y0
    go_wp2
    go_ret
    exact hfin.out
set_option maxHeartbeats 1000000 in
set_option maxRecDepth 100000 in
theorem j_del (base g : Nat) (ok : Nat → Prop) (st : JSt) (key : ByteArray) (w : World) (h : JM base ok g st w) (hl : st.cur.length ≤ 1000000000) (hn : st.lv.length ≤ 1000000) (hm : ∀ l ∈ st.lv, l.length ≤ 1000000) (hb : base ≤ w.heap.size) :
    Calls Tryz.prog 63 #[.pointer (some ⟨g, 0, none⟩), .string key] w (JPost base ok g (delJ st key) (.int .i64 (delE st key)) w) := by
  unfold delJ delE
  obtain ⟨gs, sv, lvv, vs, h⟩ := h
  have y0 : w.cell? ⟨g, 0, none⟩ = some (.pointer (some ⟨gs, 0, none⟩)) := (blk_cell h.blk 0).trans rfl
  have hg2 : (getK st.cur key).2 = hasK st.cur key := by unfold getK; cases hasK st.cur key <;> rfl
  cases hh : hasK st.cur key with
  | false =>
    rw [if_neg (by simp), if_neg (by simp)]
    go_enter Tryz.func63, Tryz.ntmps63
    go_wp2_with fail
    refine (st_get base gs st.cur key _ h.store.at_ hl).mono ?_
    rintro e w2 ⟨rfl, hb2⟩
    rw [hg2, hh]
    have hfin : JPost base ok g st (.int .i64 8) w (.returned (.int .i64 8)) w2 := ⟨rfl, ⟨_, _, _, _, (h.step hb2).mono (fun k hk => .inl hk)⟩, JW.of_below hb2⟩
    replace hfin := Aside0.mk hfin
    clear h hb2 hg2
    go_wp2
    go_ret
    exact hfin.out
  | true =>
    rw [if_pos rfl, if_pos rfl]
    go_enter Tryz.func63, Tryz.ntmps63
    go_wp2_with fail
    refine (st_get base gs st.cur key _ h.store.at_ hl).mono ?_
    rintro e w1 ⟨rfl, hb1⟩
    rw [hg2, hh]
    have h1 : JM base ok g st w1 := ⟨_, _, _, _, h.step hb1⟩
    replace hb1 := Aside0.mk hb1
    clear h y0 hg2
    go_wp2_with fail
    refine (j_note base g ok st key w1 h1 hl hn hm (Nat.le_trans hb hb1.out.size)).mono ?_
    rintro e w2 ⟨rfl, ⟨gs, sv, lvv, vs, h2⟩, W2⟩
    have y0 : w2.cell? ⟨g, 0, none⟩ = some (.pointer (some ⟨gs, 0, none⟩)) := (blk_cell h2.blk 0).trans rfl
    replace W2 := Aside0.mk ((JW.of_below hb1.out : JW ok w w1).trans W2 (fun k hk => .inl hk))
    have hs1 := hb1.out.size
    clear h1 hb1
    go_wp2_with fail
    refine (st_del base gs sv (noteJ st key).cur key _ h2.store hl).mono ?_
    rintro e w3 ⟨rfl, sv3, s3, W3, at3⟩
    have hfin : JPost base ok g { noteJ st key with cur := delK st.cur key } (.int .i64 0) w (.returned (.int .i64 0)) w3 :=
      ⟨rfl, ⟨_, _, _, _, (h2.stored s3 W3 at3).mono (fun k hk => hk.elim (fun h => h.imp_right (fun h => Nat.le_trans hs1 h)) (fun h => .inr (Nat.le_trans W2.out.size h)))⟩, W2.out.trans (JW.of_store W3 h2.oks h2.okv) (fun k hk => hk.imp_right (fun h => Nat.le_trans hs1 h))⟩
    replace hfin := Aside0.mk hfin
    clear h2 s3 W3 at3 W2 y0
    go_wp2
    go_ret
    exact hfin.out

end Go.Proofs.YtonipkgekhdogaaGreatDoor.PBas

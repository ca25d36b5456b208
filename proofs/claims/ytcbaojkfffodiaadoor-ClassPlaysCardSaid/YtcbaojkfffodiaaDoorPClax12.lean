-- written by wip/myprint.py over the kit's print; not a printed text of print.sh
import Derived.Test.YtcbaojkfffodiaaDoorPClax0
namespace Go.Proofs.YtcbaojkfffodiaaDoor.PCla
open Go.RowKit Go.Proofs.YtcbaojkfffodiaaDoorW.PrintWords Go.Proofs.YtcbaojkfffodiaaDoorW.PrintLast Go.Proofs.YtcbaojkfffodiaaDoorW.PrintMore
attribute [local go_sem] max2_int min2_int max_two min_two max_three min_three max_four min_four   -- for this text's walks alone
set_option linter.unusedVariables false
set_option linter.unusedSimpArgs false

/-! ### wire_Num: function 70 -/
/-- A number's bytes, the greatest first, k of them at most. -/
def digB : Nat → Nat → List Int
  | 0, _ => []
  | k + 1, n => if n = 0 then [] else digB k (n / 256) ++ [((n % 256 : Nat) : Int)]
def wire_Num.f (a0 : Int) : Option (ByteArray × Int) := if a0 < 0 ∨ 9007199254740992 < a0 then some ((⟨#[]⟩ : ByteArray), 3) else some (strOfNums [((digB 8 a0.toNat).length : Int)] ++ strOfNums (digB 8 a0.toNat), 0)
theorem wNumRow_set (j : Nat) (t : List Int) (v : Int) : ((List.replicate (j + 1) (Value.int .u8 0) ++ nums .u8 t).toArray).setIfInBounds j (.int .u8 v) = (List.replicate j (Value.int .u8 0) ++ nums .u8 (v :: t)).toArray := by
  rw [List.setIfInBounds_toArray, List.replicate_succ', List.append_assoc]
  congr 1
  rw [List.set_append_right _ _ (by simp)]
  simp [nums]
theorem wu8 : ∀ g : Nat, g < 9 → IntKind.u8.wrap ((8 - g : Nat) : Int) = ((8 - g : Nat) : Int) := by decide
theorem digB_len : ∀ k n, (digB k n).length ≤ k
  | 0, _ => Nat.le_refl _
  | k + 1, n => by
    unfold digB
    split
    · exact Nat.zero_le _
    · have := digB_len k (n / 256)
      rw [List.length_append, List.length_singleton]; omega
set_option maxHeartbeats 2000000 in
set_option maxRecDepth 100000 in
theorem wire_Num.calls (a0 : Int) (r1 : ByteArray) (r2 : Int) (w : World) (h : wire_Num.f a0 = some (r1, r2)) :
    Calls Tryd.prog 70 #[.int .i64 a0] w fun e w' => e = .returned (.tuple #[.string r1, .int .i64 r2]) ∧ Below w.heap.size w w' := by
  unfold wire_Num.f at h
  have HB := Aside0.mk (Below.refl w.heap.size w)
  by_cases hbad : a0 < 0 ∨ 9007199254740992 < a0
  · rw [if_pos hbad] at h
    obtain ⟨rfl, rfl⟩ := Prod.mk.inj (Option.some.inj h)
    clear h
    by_cases h0 : a0 < 0
    all_goals
      go_enter Tryd.func70, Tryd.ntmps70
      go_wp2
      go_ret2
      exact ⟨rfl, HB.out⟩
  rw [if_neg hbad] at h
  obtain ⟨rfl, rfl⟩ := Prod.mk.inj (Option.some.inj h)
  clear h
  have h0 : ¬ a0 < 0 := fun h => hbad (.inl h)
  have h1 : ¬ 9007199254740992 < a0 := fun h => hbad (.inr h)
  obtain ⟨n0, rfl⟩ : ∃ n0 : Nat, a0 = (n0 : Int) := ⟨a0.toNat, by omega⟩
  have hn0 : n0 ≤ 9007199254740992 := by omega
  rw [Int.toNat_natCast]
  clear hbad
  go_enter Tryd.func70, Tryd.ntmps70
  go_wp2_with (first | ((with_reducible refine gate_dst (N := 4) rfl ?_); (try (refine gate_guard (by rfl) ?_; dsimp only)); refine box_event ?hg (N := 4) ?hd (cs := (List.replicate 8 (Value.int .u8 0)).toArray) (t := 145) ?hr ?_; (case hd => rfl); (case hg => rfl); (case hr => first | (go_simp; done) | (go_simp; rfl)); intro gb hg w1 hbox hb; have n0_ := Aside0.mk (below_step (by repeat (first | exact HB.out | apply pw_below_drewN | apply below_drew1)) hb); have BK := Aside0.mk hbox; have GE := Aside0.mk ((by rw [hg]; exact (below_size (by repeat (first | exact HB.out | apply pw_below_drewN | apply below_drew1))) : w.heap.size ≤ gb)); clear HB; have HB := n0_; clear n0_ hb hbox hg) | fail)
  go_loopg [0, 5] 8 (fun g s0 s5 wx => ∃ (n : Nat) (t : List Int), s0 = .int .i64 n ∧ s5 = .int .i64 (g : Int) ∧ g ≤ 8 ∧ n ≤ 9007199254740992 ∧ n < 256 ^ g ∧ g + t.length = 8 ∧ Aside0 (wx.heap[gb]? = some (.cells (List.replicate g (Value.int .u8 0) ++ nums .u8 t).toArray 145 (0, 0))) ∧ Aside0 (Below w.heap.size w wx) ∧ Aside0 (digB g n ++ t = digB 8 n0))
  case atStart => exact ⟨n0, [], rfl, rfl, Nat.le_refl _, hn0, by omega, rfl, ⟨by rw [BK.out]; rfl⟩, HB, ⟨by simp⟩⟩
  case round =>
    clear BK HB
    obtain ⟨n, t, rfl, rfl, hg8, hn, hpow, htl, BK, HB, HR⟩ := hrel
    by_cases hz0 : n = 0
    · subst hz0
      have ht : t = digB 8 n0 := by
        have := HR.out
        cases gk <;> simpa [digB] using this
      have hcells : ∀ w' : World, w'.heap[gb]? = some (.cells (List.replicate gk (Value.int .u8 0) ++ nums .u8 t).toArray 145 (0, 0)) → ∀ i, i < 8 - gk → w'.cell? ⟨gb, gk + i, none⟩ = some (.int .u8 (t.getD i 0)) := by
        intro w' h i hi
        refine (blk_cell h (gk + i)).trans ?_
        rw [List.getElem?_toArray, List.getElem?_append_right (by simp), List.length_replicate, Nat.add_sub_cancel_left]
        unfold nums
        rw [List.getElem?_map, List.getElem?_eq_getElem (by omega), List.getD_eq_getElem?_getD, List.getElem?_eq_getElem (by omega)]
        rfl
      clear hpow
      obtain ⟨p, hp⟩ : ∃ p : Nat, p = if gk = 8 then 0 else gk := ⟨_, rfl⟩
      have e28 : ∀ w : World, (Instr.sliceAt 145 (.pointer (some ⟨gb, 0, none⟩)) (some (.int .i64 (gk : Int))) none none).run Tryd.prog w = .ok (.slice (some ⟨gb, p, none⟩) (8 - gk) (8 - gk)) w := by
        intro w
        obtain ⟨i0, hi0, hzz⟩ := Option.map_eq_some_iff.1 info5
        simp only [Prod.mk.injEq] at hzz
        have hg0' : ((gk : Nat) : Int) ≤ 8 := by omega
        by_cases hl : gk = 8
        · subst hl
          rw [if_pos rfl] at hp
          simp [go_sem, Instr.sliceAt, Instr.sureAddr, Instr.sliceBounds, run_underlying Tryd.underlying145, sizeOf, typeInfo, hi0, hzz.2.1, hp]
        · rw [if_neg hl] at hp
          have hl2 : ¬ 8 = gk := fun e => hl e.symm
          simp [go_sem, Instr.sliceAt, Instr.sureAddr, Instr.sliceBounds, run_underlying Tryd.underlying145, sizeOf, typeInfo, hi0, hzz.2.1, hl2, hg0', hp]
      have hcells2 : ∀ w' : World, w'.heap[gb]? = some (.cells (List.replicate gk (Value.int .u8 0) ++ nums .u8 t).toArray 145 (0, 0)) → ∀ i, i < 8 - gk → w'.cell? ⟨gb, p + i, none⟩ = some (.int .u8 (t.getD i 0)) := by
        intro w' h i hi
        rw [if_neg (by omega)] at hp
        rw [hp]
        exact hcells w' h i hi
      have hw1 : IntKind.i64.wrap (8 - (gk : Int)) = ((8 - gk : Nat) : Int) := by rw [i64_w]; unfold wrap64; omega
      have hw2 : IntKind.u8.wrap ((8 - gk : Nat) : Int) = ((8 - gk : Nat) : Int) := wu8 gk (by omega)
      have hsz : ¬ 9223372036854775807 < (strOfNums [((8 - gk : Nat) : Int)]).size + (strOfNums t).size := by
        rw [strOfNums_size, strOfNums_size]
        simp; omega
      have hl8 := Aside0.mk (show 8 - gk = t.length by omega)
      replace ht := Aside0.mk ht
      clear hp hcells
      go_upto_region 9 with (fail)
      refine start_ (n := 11) (S := fun w' => w'.heap[gb]? = some (.cells (List.replicate gk (Value.int .u8 0) ++ nums .u8 t).toArray 145 (0, 0))) (ds := []) #[false, false, false, false, false, false, false, false, false, false, false] (by kernel_rfl) rfl rfl BK.out (fun hHeld => ?_)
      have HB4 := Aside0.mk (below_drew HB.out)
      clear HB BK
      generalize wr.drew = w4 at hHeld HB4 ⊢
      refine pure_ (i := 0) (N := some 22) (v := ?_) (a' := ?_) #[true, false, false, false, false, false, false, false, false, false, false] rfl rfl (by kernel_rfl) (fun _ _ _ h => h) (Or.inl ⟨by rfl, ?_⟩) ?_ ?_
      rotate_left
      · intro w'
        go_simp
        with_reducible rfl
      rotate_left
      · simp only [Act.put, List.setIfInBounds_toArray, List.set_cons_zero, List.set_cons_succ, i64_w, i32_w]
        rfl
      refine pure_ (i := 1) (N := some 23) (v := ?_) (a' := ?_) #[true, true, false, false, false, false, false, false, false, false, false] rfl rfl (by kernel_rfl) (fun _ _ _ h => h) (Or.inl ⟨by rfl, ?_⟩) ?_ ?_
      rotate_left
      · intro w'
        go_simp
        with_reducible rfl
      rotate_left
      · simp only [Act.put, List.setIfInBounds_toArray, List.set_cons_zero, List.set_cons_succ, i64_w, i32_w]
        rfl
      refine pure_ (i := 2) (N := some 24) (v := ?_) (a' := ?_) #[true, true, true, false, false, false, false, false, false, false, false] rfl rfl (by kernel_rfl) (fun _ _ _ h => h) (Or.inl ⟨by rfl, ?_⟩) ?_ ?_
      rotate_left
      · intro w'
        go_simp
        with_reducible rfl
      rotate_left
      · simp only [Act.put, List.setIfInBounds_toArray, List.set_cons_zero, List.set_cons_succ, i64_w, i32_w]
        rfl
      refine pure_ (i := 5) (N := some 27) (v := ?_) (a' := ?_) #[true, true, true, false, false, true, false, false, false, false, false] rfl rfl (by kernel_rfl) (fun _ _ _ h => h) (Or.inl ⟨by rfl, ?_⟩) ?_ ?_
      rotate_left
      · intro w'
        go_simp
        with_reducible rfl
      rotate_left
      · simp only [Act.put, List.setIfInBounds_toArray, List.set_cons_zero, List.set_cons_succ, i64_w, i32_w]
        rfl
      refine pure_ (i := 6) (N := some 28) (v := ?_) (a' := ?_) #[true, true, true, false, false, true, true, false, false, false, false] rfl rfl (by kernel_rfl) (fun _ _ _ h => h) (Or.inl ⟨by rfl, ?_⟩) ?_ ?_
      rotate_left
      · intro w'
        go_simp
        with_reducible rfl
      rotate_left
      · simp only [Act.put, List.setIfInBounds_toArray, List.set_cons_zero, List.set_cons_succ, i64_w, i32_w]
        rfl
      refine take_ (i := 7) (N := some 29) (v := ?_) (a' := ?_) #[true, true, true, false, false, true, true, true, false, false, false] rfl rfl (by kernel_rfl) (fun _ _ _ h => h) (Or.inl ⟨by rfl, ?_⟩) hHeld ?_ ?_
      rotate_left
      · rintro w' s0
        have kc := run_convert_bytes_arg (P := Tryd.prog) w' 147 5 Tryd.underlying147 Tryd.underlying5 gb p (8 - gk) (8 - gk) t (by omega) (hcells2 w' s0) 9 Tryd.underlying9
        go_simp
        with_reducible rfl
      rotate_left
      · simp only [Act.put, List.setIfInBounds_toArray, List.set_cons_zero, List.set_cons_succ, i64_w, i32_w]
        rfl
      refine one_ (i := 3) (N := some 25) #[true, true, true, true, false, true, true, true, false, false, false] rfl rfl (by kernel_rfl) (by decide) (fun K hK => ?_)
      refine value_ (w1 := ?_) (v := ?_) (by rfl) rfl ?_ ?_
      rotate_left 2
      · go_simp
        constructor
        · rfl
        · rfl
      refine hK.out _ _ ((Below.heap_alloc _ _ _ (blk_lt hHeld)).trans hHeld) (fun hHeld => ?_)
      clear hK K
      refine norm_ (a' := ?_) ?_ ?_
      rotate_left
      · show Act.put _ (some 25) _ = _
        simp only [Act.put, List.setIfInBounds_toArray, List.set_cons_zero, List.set_cons_succ, i64_w, i32_w]
        rfl
      have kc2 := run_convert_bytes_arg (P := Tryd.prog) (w4.alloc (.cells #[.int .u8 ((8 - gk : Nat) : Int)] 5)) 147 5 Tryd.underlying147 Tryd.underlying5 w4.heap.size 0 1 1 [((8 - gk : Nat) : Int)] rfl (fun i hi => match i, hi with | 0, _ => (blk_cell (my_alloc_new w4 _) 0).trans rfl) 9 Tryd.underlying9
      refine one_ (i := 4) (N := some 26) #[true, true, true, true, true, true, true, true, false, false, false] rfl rfl (by kernel_rfl) (by decide) (fun K hK => ?_)
      refine value_ (w1 := ?_) (v := ?_) (by rfl) rfl ?_ ?_
      rotate_left 2
      · go_simp
        constructor
        · rfl
        · rfl
      refine hK.out _ _ hHeld (fun hHeld => ?_)
      clear hK K
      refine norm_ (a' := ?_) ?_ ?_
      rotate_left
      · show Act.put _ (some 26) _ = _
        simp only [Act.put, List.setIfInBounds_toArray, List.set_cons_zero, List.set_cons_succ, i64_w, i32_w]
        rfl
      refine pure_ (i := 8) (N := some 30) (v := ?_) (a' := ?_) #[true, true, true, true, true, true, true, true, true, false, false] rfl rfl (by kernel_rfl) (fun _ _ _ h => h) (Or.inl ⟨by rfl, ?_⟩) ?_ ?_
      rotate_left
      · intro w'
        go_simp
        with_reducible rfl
      rotate_left
      · simp only [Act.put, List.setIfInBounds_toArray, List.set_cons_zero, List.set_cons_succ, i64_w, i32_w]
        rfl
      refine pure_ (i := 9) (N := some 2) (v := ?_) (a' := ?_) #[true, true, true, true, true, true, true, true, true, true, false] rfl rfl (by kernel_rfl) (fun _ _ _ h => h) (Or.inl ⟨by rfl, ?_⟩) ?_ ?_
      rotate_left
      · intro w'
        go_simp
        with_reducible rfl
      rotate_left
      · simp only [Act.put, List.setIfInBounds_toArray, List.set_cons_zero, List.set_cons_succ, i64_w, i32_w]
        rfl
      refine pure_ (i := 10) (N := some 3) (v := ?_) (a' := ?_) #[true, true, true, true, true, true, true, true, true, true, true] rfl rfl (by kernel_rfl) (fun _ _ _ h => h) (Or.inl ⟨by rfl, ?_⟩) ?_ ?_
      rotate_left
      · intro w'
        go_simp
        with_reducible rfl
      rotate_left
      · simp only [Act.put, List.setIfInBounds_toArray, List.set_cons_zero, List.set_cons_succ, i64_w, i32_w]
        rfl
      refine done_ (by kernel_rfl) ?_
      have hfin := Aside0.mk (below_step HB4.out ((Below.refl _ w4).alloc (Nat.le_refl _) (.cells #[.int .u8 ((8 - gk : Nat) : Int)] 5)))
      clear hHeld HB4
      go_wp2
      go_ret2
      have e9 : strOfNums [((8 - gk : Nat) : Int)] ++ strOfNums t = strOfNums [((digB 8 n0).length : Int)] ++ strOfNums (digB 8 n0) := by rw [hl8.out, ht.out]
      refine ⟨?_, hfin.out⟩
      show Ending.returned (.tuple #[.string (strOfNums [((8 - gk : Nat) : Int)] ++ strOfNums t), .int .i64 0]) = _
      rw [e9]
    · obtain ⟨g, rfl⟩ : ∃ g, gk = g + 1 := by
        cases gk with
        | zero => simp at hpow; omega
        | succ g => exact ⟨g, rfl⟩
      have hz := blk_frozen BK.out g
      have hcell : wr.cell? ⟨gb, g, none⟩ = some (.int .u8 0) := (blk_cell BK.out g).trans (by rw [List.getElem?_toArray, List.getElem?_append_left (by simp), List.getElem?_replicate, if_pos (by omega)])
      have hpos : (0 : Int) < (n : Int) := by omega
      go_wp2
      go_roundg g
      case measure => omega
      case rel => exact ⟨n / 256, ((n % 256 : Nat) : Int) :: t, by first | rfl | (simp; done), rfl, by omega, by omega, by rw [Nat.pow_succ] at hpow; omega, by simp; omega, ⟨blk_put BK.out g _ (by rw [Int.natCast_emod]; exact wNumRow_set g t _)⟩, ⟨below_set HB.out GE.out⟩, ⟨by rw [← HR.out, digB, if_neg hz0, List.append_assoc]; rfl⟩⟩

/-! ### wire_Text: function 48 -/
def wire_Text.f (a0 : ByteArray) : Option (ByteArray × Int) := if (a0.size : Int) > 65536 then (some ((⟨#[]⟩ : ByteArray), 4)) else ((wire_Num.f (a0.size : Int)).bind fun bt118 => (if bt118.1.size + a0.size ≤ 9223372036854775807 then (some (bt118.1 ++ a0, 0)) else (none)))
set_option maxHeartbeats 8000000 in
set_option maxRecDepth 100000 in
theorem wire_Text.calls (a0 : ByteArray) (r1 : ByteArray) (r2 : Int) (w : World) (h : wire_Text.f a0 = some (r1, r2)) :
    Calls Tryd.prog 48 #[.string a0] w fun e w' => e = .returned (.tuple #[.string r1, .int .i64 r2]) ∧ Below w.heap.size w w' := by
  have HB := Aside0.mk (Below.refl w.heap.size w)
  have H : (if (a0.size : Int) > 65536 then (some ((⟨#[]⟩ : ByteArray), 4)) else ((wire_Num.f (a0.size : Int)).bind fun bt118 => (if bt118.1.size + a0.size ≤ 9223372036854775807 then (some (bt118.1 ++ a0, 0)) else (none)))) = some (r1, r2) := h
  clear h
  by_cases c2 : (a0.size : Int) > 65536
  · rw [if_pos c2] at H
    have c2b0 : decide (65536 < (a0.size : Int)) = true := decide_eq_true c2
    have c2b1 : decide (65536 < a0.size) = true := decide_eq_true (by omega)
    clear c2
    simp only [Option.some.injEq, Prod.mk.injEq] at H
    obtain ⟨rfl, rfl⟩ := H
    go_enter Tryd.func48, Tryd.ntmps48
    go_wp2
    go_ret2
    exact ⟨by first | rfl | (simp [errW_none, errW_some] <;> rfl) | (simp [*, errW_none, errW_some] <;> rfl), by repeat (first | (with_reducible first | exact HB.out | apply below_alloc | apply pw_below_drewN | apply below_drew1) | exact HB.out)⟩
  · rw [if_neg c2] at H
    have c2b0 : decide (65536 < (a0.size : Int)) = false := decide_eq_false c2
    have c2b1 : decide (65536 < a0.size) = false := decide_eq_false (by omega)
    clear c2
    replace H := Option.bind_eq_some_iff.mp H
    obtain ⟨⟨t118, t119⟩, A30, H⟩ := H
    replace H : (if t118.size + a0.size ≤ 9223372036854775807 then (some (t118 ++ a0, 0)) else (none)) = some (r1, r2) := H
    have A3 := Aside0.mk A30
    clear A30
    by_cases c4 : t118.size + a0.size ≤ 9223372036854775807
    · rw [if_pos c4] at H
      have c4b0 := eq_true c4
      have c4b1 : decide (t118.size + a0.size ≤ 9223372036854775807) = true := decide_eq_true c4
      try have c4b2 : (9223372036854775807 < t118.size + a0.size) = False := eq_false (Nat.not_lt.2 c4)
      simp only [Option.some.injEq, Prod.mk.injEq] at H
      obtain ⟨rfl, rfl⟩ := H
      go_enter Tryd.func48, Tryd.ntmps48
      go_wp2_with (first | ((with_reducible refine gate_callee (f := 70) rfl ?_); refine goesL_ (some 12) rfl rfl Tryd.func70 (by kernel_rfl) rfl #[.int .i64 (a0.size : Int)] rfl (by (try simp only [List.map_toArray, List.map_cons, List.map_nil]); first | done | rfl | (simp only [List.length_drop, List.length_take]; rfl)) ?_; (with_reducible refine (wire_Num.calls (a0.size : Int) t118 t119 _ A3.out).mono ?_); rintro e w5 ⟨rfl, hb⟩; refine ⟨_, rfl, ?_⟩; have n0_ := Aside0.mk (below_step (by repeat (first | (with_reducible first | exact HB.out | apply below_alloc | apply pw_below_drewN | apply below_drew1) | exact HB.out)) hb); clear HB; have HB := n0_; clear n0_; (try clear hb); (try clear hb2); (try clear hk); (try clear hi)))
      go_ret2
      exact ⟨by first | rfl | (simp [errW_none, errW_some] <;> rfl) | (simp [*, errW_none, errW_some] <;> rfl), by repeat (first | (with_reducible first | exact HB.out | apply below_alloc | apply pw_below_drewN | apply below_drew1) | exact HB.out)⟩
    · rw [if_neg c4] at H
      exact absurd H (by simp)

/-! ### words: builder.inc -/
/-! ### strings.Builder: the writers, at a builder of the call's own -/
/-- Whatever block is neither the builder nor a plain row of bytes stands. -/
def BKept (e : TypeId) (g : Nat) (w w' : World) : Prop := ∀ i, i < w.heap.size → i ≠ g → (∀ cs, w.heap[i]? ≠ some (.cells cs e (0, 0))) → w'.heap[i]? = w.heap[i]?
theorem BKept.refl (e : TypeId) (g : Nat) (w : World) : BKept e g w w := fun _ _ _ _ => rfl
theorem BKept.trans {e : TypeId} {g : Nat} {w w1 w2 : World} (h : BKept e g w w1) (k : BKept e g w1 w2) (hs : w.heap.size ≤ w1.heap.size) : BKept e g w w2 := fun i hi hg hc => by
  have h1 := h i hi hg hc
  rw [k i (Nat.lt_of_lt_of_le hi hs) hg (fun cs hcs => hc cs (by rw [← h1]; exact hcs)), h1]
theorem BKept.setCell {e : TypeId} {g : Nat} {w w1 : World} (h : BKept e g w w1) (k : Nat) (v : Value) : BKept e g w (w1.setCell ⟨g, k, none⟩ v) := fun i hi hg hc => by
  rw [← h i hi hg hc]
  unfold World.setCell
  simp [Array.getElem?_modify, Ne.symm hg]
theorem BKept.grown {e : TypeId} {g : Nat} {w w1 : World} {base n : Nat} {v : Value} {xs : List Value} (ho : w.ownsRow base e 1 v n xs) (hg : w.grownBy w1 v.ownBlock) : BKept e g w w1 := fun i hi _ hc => by
  refine hg.block i hi (fun he => ?_)
  obtain ⟨cells, hcs⟩ := own_typed ho i he.symm
  exact hc cells hcs
theorem BKept.alloc {e : TypeId} {g : Nat} (w : World) (o : Obj) : BKept e g w (w.alloc o) := fun i hi _ _ => my_alloc_old w o i hi
theorem bi_size : (Tryd.prog.info? 193).map (·.size) = some 2 := by kernel_rfl
theorem bi_lies : liesAt Tryd.prog Tryd.prog.depth 193 (2 / Tryd.prog.cellsOf 193) 0 193 1 = true := by kernel_rfl
theorem bi_info : (Tryd.prog.info? 5).map (fun i => (i.zero, i.size, i.bytes)) = some (some (.int .u8 0), 1, 1) := by kernel_rfl
set_option maxHeartbeats 1000000 in
set_option maxRecDepth 100000 in
theorem bi_check_used (b : Nat) (w : World) (h0 : w.cell? ⟨b, 0, none⟩ = some (.pointer (some ⟨b, 0, none⟩))) :
    Calls Tryd.prog 163 #[.pointer (some ⟨b, 0, none⟩)] w fun e w' => e = .returned (.tuple #[]) ∧ w' = w := by
  obtain ⟨j, hj, _⟩ := Option.map_eq_some_iff.1 bi_size
  go_enter Tryd.func163, Tryd.ntmps163
  go_wp2
  rw [Lib.run_neq_ptr_same w _ Tryd.underlying191 hj]
  go_wp2
  go_end0
  exact ⟨rfl, rfl⟩
set_option maxHeartbeats 1000000 in
set_option maxRecDepth 100000 in
theorem bi_check_fresh (b : Nat) (w : World) (h0 : w.cell? ⟨b, 0, none⟩ = some (.pointer none)) (hsh : w.shape? b = some (193, 2)) (hfz : w.frozen? ⟨b, 0, none⟩ = false) :
    Calls Tryd.prog 163 #[.pointer (some ⟨b, 0, none⟩)] w fun e w' => e = .returned (.tuple #[]) ∧ w' = w.setCell ⟨b, 0, none⟩ (.pointer (some ⟨b, 0, none⟩)) := by
  obtain ⟨j, hj, hjs⟩ := Option.map_eq_some_iff.1 bi_size
  go_enter Tryd.func163, Tryd.ntmps163
  go_wp2
  rw [Lib.run_to_unsafe w ⟨b, 0, none⟩ Tryd.underlying191 Tryd.underlying206 hj (by rw [hjs]; decide) hsh (Nat.zero_lt_succ 1)]
  simp only [Result.andThen]
  rw [Oper.upon_value]
  go_wp2
  rw [run_callFunc_extern Tryd.func170 (by kernel_rfl) (by kernel_rfl) (by kernel_rfl) (e := Extern.AbiNoEscape.same) (by kernel_rfl)]
  rw [Lib.run_noEscape]
  simp only [Result.andThen]
  rw [Oper.upon_value]
  go_wp2
  rw [Lib.run_from_unsafe w ⟨b, 0, none⟩ Tryd.underlying206 Tryd.underlying191 hj hsh bi_lies]
  simp only [Result.andThen]
  rw [Oper.upon_value]
  go_wp2
  go_end0
  exact ⟨rfl, rfl⟩
theorem bi_check (B b : Nat) (bs : List Value) (w : World) (h : Lib.IsBuilder 193 5 B b bs w) :
    Calls Tryd.prog 163 #[.pointer (some ⟨b, 0, none⟩)] w fun e w' => e = .returned (.tuple #[]) ∧ Lib.BuilderAt 193 5 B b (.pointer (some ⟨b, 0, none⟩)) bs w' ∧ Below B w w' ∧ BKept 5 b w w' := by
  rcases h with h | h
  · refine (bi_check_fresh b w h.cell0 h.shape h.frozen0).mono ?_
    rintro e w' ⟨rfl, rfl⟩
    exact ⟨rfl, h.used _, (Below.refl B w).setCell (p := ⟨b, 0, none⟩) h.1 _, (BKept.refl _ _ _).setCell _ _⟩
  · refine (bi_check_used b w h.cell0).mono ?_
    rintro e w' ⟨rfl, rfl⟩
    exact ⟨rfl, h, Below.refl B _, BKept.refl _ _ _⟩
set_option maxHeartbeats 1000000 in
set_option maxRecDepth 100000 in
theorem bi_str (B b : Nat) (bs : List Value) (s : ByteArray) (w : World) (h : Lib.IsBuilder 193 5 B b bs w) (hlen : bs.length + s.size ≤ 140737488355328) (hBw : B ≤ w.heap.size) :
    Calls Tryd.prog 154 #[.pointer (some ⟨b, 0, none⟩), .string s] w fun e w' => e = .returned (.tuple #[.int .i64 s.size, .nilIface]) ∧ Lib.IsBuilder 193 5 B b (bs ++ Lib.strCells s) w' ∧ Below B w w' ∧ BKept 5 b w w' := by
  obtain ⟨i0, hi, hz0, hz1, hz2⟩ := info_parts bi_info
  have e240 : ∀ args w, (callFunc 163 args).run Tryd.prog w = .ok (.enter 163 args) w := enters_of Tryd.func163 (by kernel_rfl) rfl
  go_enter Tryd.func154, Tryd.ntmps154
  go_wp2_with (go_at_call 163; refine (bi_check B b bs _ h).mono ?_)
  rintro e w1 ⟨rfl, h1, hb1, hk1⟩
  obtain ⟨hB, v, hbk, hown, hne⟩ := h1
  have c0 : w1.cell? ⟨b, 0, none⟩ = some (.pointer (some ⟨b, 0, none⟩)) := by rw [Lib.cell_of_heap hbk]; rfl
  have c1 : w1.cell? ⟨b, 1, none⟩ = some v := by rw [Lib.cell_of_heap hbk]; rfl
  replace hk1 := Aside0.mk hk1
  go_wp2_with (at_builtin; refine Lib.wpList_append_own_string _ rfl _ _ 147 9 rfl B 5 i0 Tryd.underlying147 Tryd.underlying9 hi hz0 hz1 hz2 _ _ _ rfl hown s rfl ?c3 ?c4 ?c5 ?_)
  case c3 => unfold maxLen; omega
  case c4 => omega
  case c5 => have := hb1.size; omega
  intro v' w2 hown' hgrow _
  have hlt : b < w1.heap.size := (Array.getElem?_eq_some_iff.1 hbk).1
  have hb2 : w2.heap[b]? = some (.cells #[.pointer (some ⟨b, 0, none⟩), v] 193 (0, 0)) := by
    rw [hgrow.block b hlt (fun e => hne e.symm)]
    exact hbk
  have d0 : w2.cell? ⟨b, 0, none⟩ = some (.pointer (some ⟨b, 0, none⟩)) := by rw [Lib.cell_of_heap hb2]; rfl
  have d1 : w2.cell? ⟨b, 1, none⟩ = some v := by rw [Lib.cell_of_heap hb2]; rfl
  have f1 : w2.frozen? ⟨b, 1, none⟩ = false := Lib.frozen_of_heap hb2 1
  have hkk := Aside0.mk ((hk1.out.trans (BKept.grown (g := b) hown hgrow) hb1.size).setCell 1 v')
  obtain ⟨ao, n', cap, rfl⟩ : ∃ ao n' cap, v' = .slice ao n' cap := by
    rcases hown'.2 with ⟨hv, _⟩ | ⟨g, cap, cur, hv, _⟩
    · exact ⟨_, _, _, hv⟩
    · exact ⟨_, _, _, hv⟩
  go_wp2
  go_ret2
  refine ⟨rfl, .inr ?_, ?_, hkk.out⟩
  · exact Lib.BuilderAt.put (T := 193) (e := 5) hB hb2 (bs' := bs ++ Lib.strCells s) (by simpa [Lib.strCells_length] using hown') (by decide)
  · exact (hb1.grown hgrow (by have := hb1.size; omega) (fun k hk => (hown.lt k hk).1)).setCell (p := ⟨b, 1, none⟩) hB _
theorem bi_new (B : Nat) (w : World) (h : B ≤ w.heap.size) : Lib.IsBuilder 193 5 B w.heap.size [] (w.alloc (.cells #[.pointer none, .slice none 0 0] 193)) := .inl ⟨h, _, my_alloc_new w _, ⟨rfl, .inl ⟨rfl, rfl⟩⟩, by simp [Value.ownBlock]⟩
theorem bi_below {B b : Nat} {bs : List Value} {w w1 : World} (h : Lib.IsBuilder 193 5 B b bs w) (hb : Below w.heap.size w w1) : Lib.IsBuilder 193 5 B b bs w1 := by
  have one : ∀ p, Lib.BuilderAt 193 5 B b p bs w → Lib.BuilderAt 193 5 B b p bs w1 := by
    rintro p ⟨h1, v, h2, h3, h4⟩
    exact ⟨h1, v, (hb.block b (Array.getElem?_eq_some_iff.1 h2).1).trans h2, pw_own_below h3 hb, h4⟩
  exact h.elim (fun x => .inl (one _ x)) (fun x => .inr (one _ x))

/-! ### words: strfn.inc -/
/-- A hexadecimal digit's byte. -/
def hexU (n : Nat) : UInt8 := if n < 10 then UInt8.ofNat (48 + n) else UInt8.ofNat (87 + n)
theorem byteCells_snoc (l : List UInt8) (c : UInt8) : Lib.byteCells (l ++ [c]) = Lib.byteCells l ++ [.int .u8 (c.toNat : Int)] := by simp [Lib.byteCells]
theorem byteCells_app (l m : List UInt8) : Lib.byteCells (l ++ m) = Lib.byteCells l ++ Lib.byteCells m := by simp [Lib.byteCells]
theorem strCells_app (l : List UInt8) (s : ByteArray) : Lib.byteCells l ++ Lib.strCells s = Lib.byteCells (l ++ s.toList) := by rw [Lib.strCells_eq, byteCells_app, ByteArray.toList_eq]
theorem hexU_at (n : Nat) (h : n < 16) (hn : n < (⟨#[48, 49, 50, 51, 52, 53, 54, 55, 56, 57, 97, 98, 99, 100, 101, 102]⟩ : ByteArray).size) : (⟨#[48, 49, 50, 51, 52, 53, 54, 55, 56, 57, 97, 98, 99, 100, 101, 102]⟩ : ByteArray)[n] = hexU n := by
  rcases n with _|_|_|_|_|_|_|_|_|_|_|_|_|_|_|_|n
  all_goals (first | rfl | (exfalso; omega))
theorem bi_strU (B b : Nat) (l : List UInt8) (s : ByteArray) (w : World) (h : Lib.IsBuilder 193 5 B b (Lib.byteCells l) w) (hlen : l.length + s.size ≤ 140737488355328) (hBw : B ≤ w.heap.size) :
    Calls Tryd.prog 154 #[.pointer (some ⟨b, 0, none⟩), .string s] w fun e w' => e = .returned (.tuple #[.int .i64 s.size, .nilIface]) ∧ Lib.IsBuilder 193 5 B b (Lib.byteCells (l ++ s.toList)) w' ∧ Below B w w' ∧ BKept 5 b w w' := by
  rw [← strCells_app]
  exact bi_str B b _ s w h (by rw [Lib.byteCells_length]; exact hlen) hBw

end Go.Proofs.YtcbaojkfffodiaaDoor.PCla

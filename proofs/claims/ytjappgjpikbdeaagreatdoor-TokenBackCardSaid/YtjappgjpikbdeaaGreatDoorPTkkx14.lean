-- written by wip/myprint.py over the kit's print; not a printed text of print.sh
import Derived.Test.YtjappgjpikbdeaaGreatDoorPTkkx0
namespace Go.Proofs.YtjappgjpikbdeaaGreatDoor.PTkk
open Go.RowKit Go.Proofs.YtjappgjpikbdeaaGreatDoorW.PrintWords Go.Proofs.YtjappgjpikbdeaaGreatDoorW.PrintLast Go.Proofs.YtjappgjpikbdeaaGreatDoorW.PrintMore
attribute [local go_sem] max2_int min2_int max_two min_two max_three min_three max_four min_four   -- for this text's walks alone
set_option linter.unusedVariables false
set_option linter.unusedSimpArgs false

/-! ### wire_Num: function 56 -/
/-- A number's bytes, the greatest first, k of them at most. -/
def digB : Nat → Nat → List Int
  | 0, _ => []
  | k + 1, n => if n = 0 then [] else digB k (n / 256) ++ [((n % 256 : Nat) : Int)]
def wire_Num.f (a0 : Int) : Option (ByteArray × Int) := if a0 < 0 ∨ 9007199254740992 < a0 then some ((⟨#[]⟩ : ByteArray), 3) else some (strOfNums [((digB 8 a0.toNat).length : Int)] ++ strOfNums (digB 8 a0.toNat), 0)
theorem wNumRow_set (j : Nat) (t : List Int) (v : Int) : ((List.replicate (j + 1) (Value.int .u8 0) ++ nums .u8 t).toArray).setIfInBounds j (.int .u8 v) = (List.replicate j (Value.int .u8 0) ++ nums .u8 (v :: t)).toArray := by
  rw [List.setIfInBounds_toArray, List.replicate_succ', List.append_assoc]
  congr 1
  rw [List.set_append_right _ _ (by simp)]
  simp [nums]
theorem wu8 : ∀ g : Nat, g < 9 → IntKind.u8.wrap ((8 - g : Nat) : Int) = ((8 - g : Nat) : Int) := by decide
theorem digB_len : ∀ k n, (digB k n).length ≤ k
  | 0, _ => Nat.le_refl _
  | k + 1, n => by
    unfold digB
    split
    · exact Nat.zero_le _
    · have := digB_len k (n / 256)
      rw [List.length_append, List.length_singleton]; omega
set_option maxHeartbeats 2000000 in
set_option maxRecDepth 100000 in
theorem wire_Num.calls (a0 : Int) (r1 : ByteArray) (r2 : Int) (w : World) (h : wire_Num.f a0 = some (r1, r2)) :
    Calls Tryz.prog 56 #[.int .i64 a0] w fun e w' => e = .returned (.tuple #[.string r1, .int .i64 r2]) ∧ Below w.heap.size w w' := by
  unfold wire_Num.f at h
  have HB := Aside0.mk (Below.refl w.heap.size w)
  by_cases hbad : a0 < 0 ∨ 9007199254740992 < a0
  · rw [if_pos hbad] at h
    obtain ⟨rfl, rfl⟩ := Prod.mk.inj (Option.some.inj h)
    clear h
    by_cases h0 : a0 < 0
    all_goals
      go_enter Tryz.func56, Tryz.ntmps56
      go_wp2
      go_ret2
      exact ⟨rfl, HB.out⟩
  rw [if_neg hbad] at h
  obtain ⟨rfl, rfl⟩ := Prod.mk.inj (Option.some.inj h)
  clear h
  have h0 : ¬ a0 < 0 := fun h => hbad (.inl h)
  have h1 : ¬ 9007199254740992 < a0 := fun h => hbad (.inr h)
  obtain ⟨n0, rfl⟩ : ∃ n0 : Nat, a0 = (n0 : Int) := ⟨a0.toNat, by omega⟩
  have hn0 : n0 ≤ 9007199254740992 := by omega
  rw [Int.toNat_natCast]
  clear hbad
  go_enter Tryz.func56, Tryz.ntmps56
  go_wp2_with (first | ((with_reducible refine gate_dst (N := 4) rfl ?_); (try (refine gate_guard (by rfl) ?_; dsimp only)); refine box_event ?hg (N := 4) ?hd (cs := (List.replicate 8 (Value.int .u8 0)).toArray) (t := 122) ?hr ?_; (case hd => rfl); (case hg => rfl); (case hr => first | (go_simp; done) | (go_simp; rfl)); intro gb hg w1 hbox hb; have n0_ := Aside0.mk (below_step (by repeat (first | exact HB.out | apply pw_below_drewN | apply below_drew1)) hb); have BK := Aside0.mk hbox; have GE := Aside0.mk ((by rw [hg]; exact (below_size (by repeat (first | exact HB.out | apply pw_below_drewN | apply below_drew1))) : w.heap.size ≤ gb)); clear HB; have HB := n0_; clear n0_ hb hbox hg) | fail)
  go_loopg [0, 5] 8 (fun g s0 s5 wx => ∃ (n : Nat) (t : List Int), s0 = .int .i64 n ∧ s5 = .int .i64 (g : Int) ∧ g ≤ 8 ∧ n ≤ 9007199254740992 ∧ n < 256 ^ g ∧ g + t.length = 8 ∧ Aside0 (wx.heap[gb]? = some (.cells (List.replicate g (Value.int .u8 0) ++ nums .u8 t).toArray 122 (0, 0))) ∧ Aside0 (Below w.heap.size w wx) ∧ Aside0 (digB g n ++ t = digB 8 n0))
  case atStart => exact ⟨n0, [], rfl, rfl, Nat.le_refl _, hn0, by omega, rfl, ⟨by rw [BK.out]; rfl⟩, HB, ⟨by simp⟩⟩
  case round =>
    clear BK HB
    obtain ⟨n, t, rfl, rfl, hg8, hn, hpow, htl, BK, HB, HR⟩ := hrel
    by_cases hz0 : n = 0
    · subst hz0
      have ht : t = digB 8 n0 := by
        have := HR.out
        cases gk <;> simpa [digB] using this
      have hcells : ∀ w' : World, w'.heap[gb]? = some (.cells (List.replicate gk (Value.int .u8 0) ++ nums .u8 t).toArray 122 (0, 0)) → ∀ i, i < 8 - gk → w'.cell? ⟨gb, gk + i, none⟩ = some (.int .u8 (t.getD i 0)) := by
        intro w' h i hi
        refine (blk_cell h (gk + i)).trans ?_
        rw [List.getElem?_toArray, List.getElem?_append_right (by simp), List.length_replicate, Nat.add_sub_cancel_left]
        unfold nums
        rw [List.getElem?_map, List.getElem?_eq_getElem (by omega), List.getD_eq_getElem?_getD, List.getElem?_eq_getElem (by omega)]
        rfl
      clear hpow
      obtain ⟨p, hp⟩ : ∃ p : Nat, p = if gk = 8 then 0 else gk := ⟨_, rfl⟩
      have e28 : ∀ w : World, (Instr.sliceAt 122 (.pointer (some ⟨gb, 0, none⟩)) (some (.int .i64 (gk : Int))) none none).run Tryz.prog w = .ok (.slice (some ⟨gb, p, none⟩) (8 - gk) (8 - gk)) w := by
        intro w
        obtain ⟨i0, hi0, hzz⟩ := Option.map_eq_some_iff.1 info5
        simp only [Prod.mk.injEq] at hzz
        have hg0' : ((gk : Nat) : Int) ≤ 8 := by omega
        by_cases hl : gk = 8
        · subst hl
          rw [if_pos rfl] at hp
          simp [go_sem, Instr.sliceAt, Instr.sureAddr, Instr.sliceBounds, run_underlying Tryz.underlying122, sizeOf, typeInfo, hi0, hzz.2.1, hp]
        · rw [if_neg hl] at hp
          have hl2 : ¬ 8 = gk := fun e => hl e.symm
          simp [go_sem, Instr.sliceAt, Instr.sureAddr, Instr.sliceBounds, run_underlying Tryz.underlying122, sizeOf, typeInfo, hi0, hzz.2.1, hl2, hg0', hp]
      have hcells2 : ∀ w' : World, w'.heap[gb]? = some (.cells (List.replicate gk (Value.int .u8 0) ++ nums .u8 t).toArray 122 (0, 0)) → ∀ i, i < 8 - gk → w'.cell? ⟨gb, p + i, none⟩ = some (.int .u8 (t.getD i 0)) := by
        intro w' h i hi
        rw [if_neg (by omega)] at hp
        rw [hp]
        exact hcells w' h i hi
      have hw1 : IntKind.i64.wrap (8 - (gk : Int)) = ((8 - gk : Nat) : Int) := by rw [i64_w]; unfold wrap64; omega
      have hw2 : IntKind.u8.wrap ((8 - gk : Nat) : Int) = ((8 - gk : Nat) : Int) := wu8 gk (by omega)
      have hsz : ¬ 9223372036854775807 < (strOfNums [((8 - gk : Nat) : Int)]).size + (strOfNums t).size := by
        rw [strOfNums_size, strOfNums_size]
        simp; omega
      have hl8 := Aside0.mk (show 8 - gk = t.length by omega)
      replace ht := Aside0.mk ht
      clear hp hcells
      go_upto_region 9 with (fail)
      refine start_ (n := 11) (S := fun w' => w'.heap[gb]? = some (.cells (List.replicate gk (Value.int .u8 0) ++ nums .u8 t).toArray 122 (0, 0))) (ds := []) #[false, false, false, false, false, false, false, false, false, false, false] (by kernel_rfl) rfl rfl BK.out (fun hHeld => ?_)
      have HB4 := Aside0.mk (below_drew HB.out)
      clear HB BK
      generalize wr.drew = w4 at hHeld HB4 ⊢
      refine pure_ (i := 0) (N := some 22) (v := ?_) (a' := ?_) #[true, false, false, false, false, false, false, false, false, false, false] rfl rfl (by kernel_rfl) (fun _ _ _ h => h) (Or.inl ⟨by rfl, ?_⟩) ?_ ?_
      rotate_left
      · intro w'
        go_simp
        with_reducible rfl
      rotate_left
      · simp only [Act.put, List.setIfInBounds_toArray, List.set_cons_zero, List.set_cons_succ, i64_w, i32_w]
        rfl
      refine pure_ (i := 1) (N := some 23) (v := ?_) (a' := ?_) #[true, true, false, false, false, false, false, false, false, false, false] rfl rfl (by kernel_rfl) (fun _ _ _ h => h) (Or.inl ⟨by rfl, ?_⟩) ?_ ?_
      rotate_left
      · intro w'
        go_simp
        with_reducible rfl
      rotate_left
      · simp only [Act.put, List.setIfInBounds_toArray, List.set_cons_zero, List.set_cons_succ, i64_w, i32_w]
        rfl
      refine pure_ (i := 2) (N := some 24) (v := ?_) (a' := ?_) #[true, true, true, false, false, false, false, false, false, false, false] rfl rfl (by kernel_rfl) (fun _ _ _ h => h) (Or.inl ⟨by rfl, ?_⟩) ?_ ?_
      rotate_left
      · intro w'
        go_simp
        with_reducible rfl
      rotate_left
      · simp only [Act.put, List.setIfInBounds_toArray, List.set_cons_zero, List.set_cons_succ, i64_w, i32_w]
        rfl
      refine pure_ (i := 5) (N := some 27) (v := ?_) (a' := ?_) #[true, true, true, false, false, true, false, false, false, false, false] rfl rfl (by kernel_rfl) (fun _ _ _ h => h) (Or.inl ⟨by rfl, ?_⟩) ?_ ?_
      rotate_left
      · intro w'
        go_simp
        with_reducible rfl
      rotate_left
      · simp only [Act.put, List.setIfInBounds_toArray, List.set_cons_zero, List.set_cons_succ, i64_w, i32_w]
        rfl
      refine pure_ (i := 6) (N := some 28) (v := ?_) (a' := ?_) #[true, true, true, false, false, true, true, false, false, false, false] rfl rfl (by kernel_rfl) (fun _ _ _ h => h) (Or.inl ⟨by rfl, ?_⟩) ?_ ?_
      rotate_left
      · intro w'
        go_simp
        with_reducible rfl
      rotate_left
      · simp only [Act.put, List.setIfInBounds_toArray, List.set_cons_zero, List.set_cons_succ, i64_w, i32_w]
        rfl
      refine take_ (i := 7) (N := some 29) (v := ?_) (a' := ?_) #[true, true, true, false, false, true, true, true, false, false, false] rfl rfl (by kernel_rfl) (fun _ _ _ h => h) (Or.inl ⟨by rfl, ?_⟩) hHeld ?_ ?_
      rotate_left
      · rintro w' s0
        have kc := run_convert_bytes_arg (P := Tryz.prog) w' 124 5 Tryz.underlying124 Tryz.underlying5 gb p (8 - gk) (8 - gk) t (by omega) (hcells2 w' s0) 9 Tryz.underlying9
        go_simp
        with_reducible rfl
      rotate_left
      · simp only [Act.put, List.setIfInBounds_toArray, List.set_cons_zero, List.set_cons_succ, i64_w, i32_w]
        rfl
      refine one_ (i := 3) (N := some 25) #[true, true, true, true, false, true, true, true, false, false, false] rfl rfl (by kernel_rfl) (by decide) (fun K hK => ?_)
      refine value_ (w1 := ?_) (v := ?_) (by rfl) rfl ?_ ?_
      rotate_left 2
      · go_simp
        constructor
        · rfl
        · rfl
      refine hK.out _ _ ((Below.heap_alloc _ _ _ (blk_lt hHeld)).trans hHeld) (fun hHeld => ?_)
      clear hK K
      refine norm_ (a' := ?_) ?_ ?_
      rotate_left
      · show Act.put _ (some 25) _ = _
        simp only [Act.put, List.setIfInBounds_toArray, List.set_cons_zero, List.set_cons_succ, i64_w, i32_w]
        rfl
      have kc2 := run_convert_bytes_arg (P := Tryz.prog) (w4.alloc (.cells #[.int .u8 ((8 - gk : Nat) : Int)] 5)) 124 5 Tryz.underlying124 Tryz.underlying5 w4.heap.size 0 1 1 [((8 - gk : Nat) : Int)] rfl (fun i hi => match i, hi with | 0, _ => (blk_cell (my_alloc_new w4 _) 0).trans rfl) 9 Tryz.underlying9
      refine one_ (i := 4) (N := some 26) #[true, true, true, true, true, true, true, true, false, false, false] rfl rfl (by kernel_rfl) (by decide) (fun K hK => ?_)
      refine value_ (w1 := ?_) (v := ?_) (by rfl) rfl ?_ ?_
      rotate_left 2
      · go_simp
        constructor
        · rfl
        · rfl
      refine hK.out _ _ hHeld (fun hHeld => ?_)
      clear hK K
      refine norm_ (a' := ?_) ?_ ?_
      rotate_left
      · show Act.put _ (some 26) _ = _
        simp only [Act.put, List.setIfInBounds_toArray, List.set_cons_zero, List.set_cons_succ, i64_w, i32_w]
        rfl
      refine pure_ (i := 8) (N := some 30) (v := ?_) (a' := ?_) #[true, true, true, true, true, true, true, true, true, false, false] rfl rfl (by kernel_rfl) (fun _ _ _ h => h) (Or.inl ⟨by rfl, ?_⟩) ?_ ?_
      rotate_left
      · intro w'
        go_simp
        with_reducible rfl
      rotate_left
      · simp only [Act.put, List.setIfInBounds_toArray, List.set_cons_zero, List.set_cons_succ, i64_w, i32_w]
        rfl
      refine pure_ (i := 9) (N := some 2) (v := ?_) (a' := ?_) #[true, true, true, true, true, true, true, true, true, true, false] rfl rfl (by kernel_rfl) (fun _ _ _ h => h) (Or.inl ⟨by rfl, ?_⟩) ?_ ?_
      rotate_left
      · intro w'
        go_simp
        with_reducible rfl
      rotate_left
      · simp only [Act.put, List.setIfInBounds_toArray, List.set_cons_zero, List.set_cons_succ, i64_w, i32_w]
        rfl
      refine pure_ (i := 10) (N := some 3) (v := ?_) (a' := ?_) #[true, true, true, true, true, true, true, true, true, true, true] rfl rfl (by kernel_rfl) (fun _ _ _ h => h) (Or.inl ⟨by rfl, ?_⟩) ?_ ?_
      rotate_left
      · intro w'
        go_simp
        with_reducible rfl
      rotate_left
      · simp only [Act.put, List.setIfInBounds_toArray, List.set_cons_zero, List.set_cons_succ, i64_w, i32_w]
        rfl
      refine done_ (by kernel_rfl) ?_
      have hfin := Aside0.mk (below_step HB4.out ((Below.refl _ w4).alloc (Nat.le_refl _) (.cells #[.int .u8 ((8 - gk : Nat) : Int)] 5)))
      clear hHeld HB4
      go_wp2
      go_ret2
      have e9 : strOfNums [((8 - gk : Nat) : Int)] ++ strOfNums t = strOfNums [((digB 8 n0).length : Int)] ++ strOfNums (digB 8 n0) := by rw [hl8.out, ht.out]
      refine ⟨?_, hfin.out⟩
      show Ending.returned (.tuple #[.string (strOfNums [((8 - gk : Nat) : Int)] ++ strOfNums t), .int .i64 0]) = _
      rw [e9]
    · obtain ⟨g, rfl⟩ : ∃ g, gk = g + 1 := by
        cases gk with
        | zero => simp at hpow; omega
        | succ g => exact ⟨g, rfl⟩
      have hz := blk_frozen BK.out g
      have hcell : wr.cell? ⟨gb, g, none⟩ = some (.int .u8 0) := (blk_cell BK.out g).trans (by rw [List.getElem?_toArray, List.getElem?_append_left (by simp), List.getElem?_replicate, if_pos (by omega)])
      have hpos : (0 : Int) < (n : Int) := by omega
      go_wp2
      go_roundg g
      case measure => omega
      case rel => exact ⟨n / 256, ((n % 256 : Nat) : Int) :: t, by first | rfl | (simp; done), rfl, by omega, by omega, by rw [Nat.pow_succ] at hpow; omega, by simp; omega, ⟨blk_put BK.out g _ (by rw [Int.natCast_emod]; exact wNumRow_set g t _)⟩, ⟨below_set HB.out GE.out⟩, ⟨by rw [← HR.out, digB, if_neg hz0, List.append_assoc]; rfl⟩⟩

/-! ### wire_Text: function 64 -/
def wire_Text.f (a0 : ByteArray) : Option (ByteArray × Int) := if (a0.size : Int) > 65536 then (some ((⟨#[]⟩ : ByteArray), 4)) else ((wire_Num.f (a0.size : Int)).bind fun bt145 => (if bt145.1.size + a0.size ≤ 9223372036854775807 then (some (bt145.1 ++ a0, 0)) else (none)))
set_option maxHeartbeats 8000000 in
set_option maxRecDepth 100000 in
theorem wire_Text.calls (a0 : ByteArray) (r1 : ByteArray) (r2 : Int) (w : World) (h : wire_Text.f a0 = some (r1, r2)) :
    Calls Tryz.prog 64 #[.string a0] w fun e w' => e = .returned (.tuple #[.string r1, .int .i64 r2]) ∧ Below w.heap.size w w' := by
  have HB := Aside0.mk (Below.refl w.heap.size w)
  have H : (if (a0.size : Int) > 65536 then (some ((⟨#[]⟩ : ByteArray), 4)) else ((wire_Num.f (a0.size : Int)).bind fun bt145 => (if bt145.1.size + a0.size ≤ 9223372036854775807 then (some (bt145.1 ++ a0, 0)) else (none)))) = some (r1, r2) := h
  clear h
  by_cases c2 : (a0.size : Int) > 65536
  · rw [if_pos c2] at H
    have c2b0 : decide (65536 < (a0.size : Int)) = true := decide_eq_true c2
    have c2b1 : decide (65536 < a0.size) = true := decide_eq_true (by omega)
    clear c2
    simp only [Option.some.injEq, Prod.mk.injEq] at H
    obtain ⟨rfl, rfl⟩ := H
    go_enter Tryz.func64, Tryz.ntmps64
    go_wp2
    go_ret2
    exact ⟨by first | rfl | (simp [errW_none, errW_some] <;> rfl) | (simp [*, errW_none, errW_some] <;> rfl), by repeat (first | (with_reducible first | exact HB.out | apply below_alloc | apply pw_below_drewN | apply below_drew1) | exact HB.out)⟩
  · rw [if_neg c2] at H
    have c2b0 : decide (65536 < (a0.size : Int)) = false := decide_eq_false c2
    have c2b1 : decide (65536 < a0.size) = false := decide_eq_false (by omega)
    clear c2
    replace H := Option.bind_eq_some_iff.mp H
    obtain ⟨⟨t145, t146⟩, A30, H⟩ := H
    replace H : (if t145.size + a0.size ≤ 9223372036854775807 then (some (t145 ++ a0, 0)) else (none)) = some (r1, r2) := H
    have A3 := Aside0.mk A30
    clear A30
    by_cases c4 : t145.size + a0.size ≤ 9223372036854775807
    · rw [if_pos c4] at H
      have c4b0 := eq_true c4
      have c4b1 : decide (t145.size + a0.size ≤ 9223372036854775807) = true := decide_eq_true c4
      try have c4b2 : (9223372036854775807 < t145.size + a0.size) = False := eq_false (Nat.not_lt.2 c4)
      simp only [Option.some.injEq, Prod.mk.injEq] at H
      obtain ⟨rfl, rfl⟩ := H
      go_enter Tryz.func64, Tryz.ntmps64
      go_wp2_with (first | ((with_reducible refine gate_callee (f := 56) rfl ?_); refine goesL_ (some 12) rfl rfl Tryz.func56 (by kernel_rfl) rfl #[.int .i64 (a0.size : Int)] rfl (by (try simp only [List.map_toArray, List.map_cons, List.map_nil]); first | done | rfl | (simp only [List.length_drop, List.length_take]; rfl)) ?_; (with_reducible refine (wire_Num.calls (a0.size : Int) t145 t146 _ A3.out).mono ?_); rintro e w5 ⟨rfl, hb⟩; refine ⟨_, rfl, ?_⟩; have n0_ := Aside0.mk (below_step (by repeat (first | (with_reducible first | exact HB.out | apply below_alloc | apply pw_below_drewN | apply below_drew1) | exact HB.out)) hb); clear HB; have HB := n0_; clear n0_; (try clear hb); (try clear hb2); (try clear hk); (try clear hi)))
      go_ret2
      exact ⟨by first | rfl | (simp [errW_none, errW_some] <;> rfl) | (simp [*, errW_none, errW_some] <;> rfl), by repeat (first | (with_reducible first | exact HB.out | apply below_alloc | apply pw_below_drewN | apply below_drew1) | exact HB.out)⟩
    · rw [if_neg c4] at H
      exact absurd H (by simp)

end Go.Proofs.YtjappgjpikbdeaaGreatDoor.PTkk

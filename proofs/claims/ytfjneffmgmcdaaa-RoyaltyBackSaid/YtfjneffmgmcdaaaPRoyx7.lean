-- written by wip/myprint.py over the kit's print; not a printed text of print.sh
import Derived.Test.YtfjneffmgmcdaaaPRoyx0
import Derived.Test.YtfjneffmgmcdaaaPRoyx1
import Derived.Test.YtfjneffmgmcdaaaPRoyx3
import Derived.Test.YtfjneffmgmcdaaaPRoyx4
import Derived.Test.YtfjneffmgmcdaaaPRoyx6
namespace Go.Proofs.Ytfjneffmgmcdaaa.PRoy
open Go.RowKit Go.Proofs.YtfjneffmgmcdaaaW.PrintWords Go.Proofs.YtfjneffmgmcdaaaW.PrintLast Go.Proofs.YtfjneffmgmcdaaaW.PrintMore
attribute [local go_sem] max2_int min2_int max_two min_two max_three min_three max_four min_four   -- for this text's walks alone
set_option linter.unusedVariables false
set_option linter.unusedSimpArgs false

attribute [local go_sem high] eqA45
/-! ### footbridgelaw33_RoyaltyReads: function 10 -/
def footbridgelaw33_RoyaltyReads.j0 : Nat → ByteArray → Int → Bool → ByteArray → Int → Option (Bool)
  | 0, _, _, _, _, _ => none
  | k + 1, x1, x2, x29, x196000, x196001 => if x29 = true then ((footbridgelaw33_awake.f k).bind fun t196 => (some t196)) else ((royalty_Put.f k x196000 x196001 x1).bind fun bt197 => ((footbridgeref33_Put.f k x196000 x196001 x1).bind fun bt199 => ((royalty_Read.f k x1).bind fun bt201 => ((footbridgeref33_Read.f k x1).bind fun bt206 => ((royalty_Share.f x196000 x196001 x2).bind fun bt211 => ((footbridgeref33_Share.f x196000 x196001 x2).bind fun bt213 => (if bt197.1.toList = bt199.1.toList then (if bt197.2 = bt199.2 then (if (bt201.1.toList == bt206.1.toList && (bt201.2.1 == bt206.2.1)) = true then (if bt201.2.2.1.toList = bt206.2.2.1.toList then (if bt201.2.2.2 = bt206.2.2.2 then ((royalty_Check.f k x1).bind fun t215 => (if t215 = bt206.2.2.2 then (if bt211.1 = bt213.1 then (if bt211.2 = bt213.2 then ((footbridgelaw33_awake.f k).bind fun t216 => (some t216)) else (none)) else (none)) else (none))) else (none)) else (none)) else (none)) else (none)) else (none))))))))
def footbridgelaw33_RoyaltyReads.f (k : Nat) (a0_0 : ByteArray) (a0_1 : Int) (a1 : ByteArray) (a2 : Int) : Option (Bool) := if (a0_0.size : Int) > 300 then (footbridgelaw33_RoyaltyReads.j0 k a1 a2 true a0_0 a0_1) else (footbridgelaw33_RoyaltyReads.j0 k a1 a2 (decide ((a1.size : Int) > 1000)) a0_0 a0_1)
theorem footbridgelaw33_RoyaltyReads.mono_l : ∀ k, (∀ y0 y1 y2 y3 y4, LeO (footbridgelaw33_RoyaltyReads.j0 k y0 y1 y2 y3 y4) (footbridgelaw33_RoyaltyReads.j0 (k + 1) y0 y1 y2 y3 y4))
  | 0 => fun _ _ _ _ _ r h => by simp [footbridgelaw33_RoyaltyReads.j0] at h
  | k + 1 => by
    have ih0 := footbridgelaw33_RoyaltyReads.mono_l k
    · intro y0 y1 y2 y3 y4
      unfold footbridgelaw33_RoyaltyReads.j0
      repeat' first
      | (with_reducible exact ih0 _ _ _ _ _)
      | (with_reducible exact footbridgelaw33_awake.mono _)
      | (with_reducible exact footbridgeref33_Put.mono _ _ _ _)
      | (with_reducible exact footbridgeref33_Read.mono _ _)
      | (with_reducible exact royalty_Check.mono _ _)
      | (with_reducible exact royalty_Put.mono _ _ _ _)
      | (with_reducible exact royalty_Read.mono _ _)
      | (with_reducible exact LeO.refl _)
      | (with_reducible exact LeO.none _)
      | (with_reducible refine LeO.ite ?_ ?_)
      | (with_reducible refine LeO.bind ?_ (fun _ => ?_))
      | exact ih0 _ _ _ _ _
      | exact footbridgelaw33_awake.mono _
      | exact footbridgeref33_Put.mono _ _ _ _
      | exact footbridgeref33_Read.mono _ _
      | exact royalty_Check.mono _ _
      | exact royalty_Put.mono _ _ _ _
      | exact royalty_Read.mono _ _
      | exact LeO.none _
      | refine LeO.ite ?_ ?_
      | refine LeO.bind ?_ (fun _ => ?_)
theorem footbridgelaw33_RoyaltyReads.mono : ∀ a0 a1 a2 a3 k, LeO (footbridgelaw33_RoyaltyReads.f k a0 a1 a2 a3) (footbridgelaw33_RoyaltyReads.f (k + 1) a0 a1 a2 a3) := by
  intro a0 a1 a2 a3 k
  have ih0 := footbridgelaw33_RoyaltyReads.mono_l k
  unfold footbridgelaw33_RoyaltyReads.f
  repeat' first
      | (with_reducible exact ih0 _ _ _ _ _)
      | (with_reducible exact footbridgelaw33_awake.mono _)
      | (with_reducible exact footbridgeref33_Put.mono _ _ _ _)
      | (with_reducible exact footbridgeref33_Read.mono _ _)
      | (with_reducible exact royalty_Check.mono _ _)
      | (with_reducible exact royalty_Put.mono _ _ _ _)
      | (with_reducible exact royalty_Read.mono _ _)
      | (with_reducible exact LeO.refl _)
      | (with_reducible exact LeO.none _)
      | (with_reducible refine LeO.ite ?_ ?_)
      | (with_reducible refine LeO.bind ?_ (fun _ => ?_))
      | exact ih0 _ _ _ _ _
      | exact footbridgelaw33_awake.mono _
      | exact footbridgeref33_Put.mono _ _ _ _
      | exact footbridgeref33_Read.mono _ _
      | exact royalty_Check.mono _ _
      | exact royalty_Put.mono _ _ _ _
      | exact royalty_Read.mono _ _
      | exact LeO.none _
      | refine LeO.ite ?_ ?_
      | refine LeO.bind ?_ (fun _ => ?_)
set_option maxHeartbeats 8000000 in
set_option maxRecDepth 100000 in
theorem footbridgelaw33_RoyaltyReads.calls (k : Nat) (a0_0 : ByteArray) (a0_1 : Int) (a1 : ByteArray) (a2 : Int) (r : Bool) (w : World) (h : footbridgelaw33_RoyaltyReads.f k a0_0 a0_1 a1 a2 = some r) :
    Calls Try.prog 10 #[.agg #[.string a0_0, .int .i64 a0_1], .string a1, .int .i64 a2] w fun e w' => e = .returned (.bool r) ∧ Below w.heap.size w w' := by
  have hu45 := Try.underlying45
  have HB := Aside0.mk (Below.refl w.heap.size w)
  have H : (if (a0_0.size : Int) > 300 then (footbridgelaw33_RoyaltyReads.j0 k a1 a2 true a0_0 a0_1) else (footbridgelaw33_RoyaltyReads.j0 k a1 a2 (decide ((a1.size : Int) > 1000)) a0_0 a0_1)) = some r := h
  clear h
  have HC4 := Aside0.mk H
  clear H
  go_enter Try.func10, Try.ntmps10
  go_upto_region 1 with (first | ((with_reducible refine gate_dst (N := 3) rfl ?_); (try (refine gate_guard (by rfl) ?_; dsimp only)); refine box_event ?hg (N := 3) ?hd (cs := #[.string a0_0, .int .i64 a0_1]) (t := 45) ?hr ?_; (case hd => rfl); (case hg => rfl); (case hr => first | (go_simp; done) | (go_simp; rfl)); intro gb195 hg w5 hbox hb; have n0_ := Aside0.mk (below_step (by repeat (first | (with_reducible first | exact HB.out | apply below_alloc | apply pw_below_drewN | apply below_drew1) | exact HB.out)) hb); have n1_ := Aside0.mk (hbox); have n2_ := Aside0.mk ((by rw [hg]; exact (below_size (by repeat (first | (with_reducible first | exact HB.out | apply below_alloc | apply pw_below_drewN | apply below_drew1) | exact HB.out))) : w.heap.size ≤ gb195)); have n3_ := Aside0.mk ((by rw [hg]; exact (below_size (by repeat (first | (with_reducible first | exact HB.out | apply below_alloc | apply pw_below_drewN | apply below_drew1) | exact HB.out))) : w.heap.size ≤ gb195)); clear HB; have HB := n0_; have BK195 := n1_; have GW195 := n2_; have GE195 := n3_; clear n0_ n1_ n2_ n3_; clear hb hbox hg))
  (try simp only [Act.put, List.setIfInBounds_toArray, List.set_cons_zero, List.set_cons_succ])
  go_cut [29] (fun v29 wc => ∃ (kq : Nat) (x29_3 : Bool), v29 = .bool x29_3 ∧ Aside0 (footbridgelaw33_RoyaltyReads.j0 kq a1 a2 x29_3 a0_0 a0_1 = some r) ∧ Aside0 (kq ≤ k) ∧ Aside0 (wc.heap[gb195]? = some (.cells #[.string a0_0, .int .i64 a0_1] 45 (0, 0))) ∧ Aside0 (Below w.heap.size w wc))
  case first =>
    have H := HC4.out
    clear HC4
    by_cases c6 : (a0_0.size : Int) > 300
    · rw [if_pos c6] at H
      have c6b0 : decide (300 < (a0_0.size : Int)) = true := decide_eq_true c6
      have c6b1 : decide (300 < a0_0.size) = true := decide_eq_true (by omega)
      clear c6
      (first | rw [c6b0] | (simp only [i64_w, i32_w]; rw [c6b0]) | skip)
      have H' := Aside0.mk H
      clear H
      have hcz7_0 : w5.cell? ⟨gb195, 0, none⟩ = some (.string a0_0) := (blk_cell BK195.out 0).trans rfl
      have hcz7_1 : w5.cell? ⟨gb195, 1, none⟩ = some (.int .i64 a0_1) := (blk_cell BK195.out 1).trans rfl
      have hfz7_0 := blk_frozen BK195.out 0
      have hfz7_1 := blk_frozen BK195.out 1
      go_wp2
      go_meet
      case rel => exact ⟨_, (true), (by first | rfl | (simp; done) | (simp [*]; done)), H', ⟨by first | omega | exact Nat.le_refl _⟩, ⟨by (with_reducible repeat (first | refine blk_drewN ?_ _ | refine blk_drew ?_ | refine blk_alloc ?_ _)); exact BK195.out⟩, ⟨by repeat (first | (with_reducible first | exact HB.out | apply below_alloc | apply pw_below_drewN | apply below_drew1 | refine below_set ?_ GE195.out) | exact HB.out)⟩⟩
    · rw [if_neg c6] at H
      have c6b0 : decide (300 < (a0_0.size : Int)) = false := decide_eq_false c6
      have c6b1 : decide (300 < a0_0.size) = false := decide_eq_false (by omega)
      clear c6
      (first | rw [c6b0] | (simp only [i64_w, i32_w]; rw [c6b0]) | skip)
      have H' := Aside0.mk H
      clear H
      have hcz8_0 : w5.cell? ⟨gb195, 0, none⟩ = some (.string a0_0) := (blk_cell BK195.out 0).trans rfl
      have hcz8_1 : w5.cell? ⟨gb195, 1, none⟩ = some (.int .i64 a0_1) := (blk_cell BK195.out 1).trans rfl
      have hfz8_0 := blk_frozen BK195.out 0
      have hfz8_1 := blk_frozen BK195.out 1
      go_wp2
      go_meet
      case rel => exact ⟨_, (decide ((a1.size : Int) > 1000)), (by first | rfl | (simp; done) | (simp [*]; done)), H', ⟨by first | omega | exact Nat.le_refl _⟩, ⟨by (with_reducible repeat (first | refine blk_drewN ?_ _ | refine blk_drew ?_ | refine blk_alloc ?_ _)); exact BK195.out⟩, ⟨by repeat (first | (with_reducible first | exact HB.out | apply below_alloc | apply pw_below_drewN | apply below_drew1 | refine below_set ?_ GE195.out) | exact HB.out)⟩⟩
  case rest =>
    clear HC4
    try clear c1
    try clear p2
    try clear c6
    try clear c6b0
    try clear c6b1
    try clear hcz7_0
    try clear hcz7_1
    try clear hcz8_0
    try clear hcz8_1
    try clear hfz7_0
    try clear hfz7_1
    try clear hfz8_0
    try clear hfz8_1
    obtain ⟨kq, x29_3, rfl, HA, HJ3, BK195, HB⟩ := hcut
    cases kq with
    | zero => exact absurd HA.out (by simp [footbridgelaw33_RoyaltyReads.j0])
    | succ kj3 =>
      have H := HA.out
      clear HA
      simp only [footbridgelaw33_RoyaltyReads.j0] at H
      by_cases c9 : x29_3 = true
      · subst c9
        have H1 : ((footbridgelaw33_awake.f kj3).bind fun t196 => (some t196)) = some r := by rw [if_pos rfl] at H; exact H
        clear H
        have H := H1
        clear H1
        replace H := Option.bind_eq_some_iff.mp H
        obtain ⟨t196, A100, H⟩ := H
        replace H : (some t196) = some r := H
        have A10 := Aside0.mk A100
        clear A100
        obtain rfl := Option.some.inj H
        go_wp2_with (first | ((with_reducible refine gate_callee (f := 32) rfl ?_); refine goesL_ (some 30) rfl rfl Try.func32 (by kernel_rfl) rfl #[] rfl (by (try simp only [List.map_toArray, List.map_cons, List.map_nil]); first | done | rfl | (simp only [List.length_drop, List.length_take]; rfl)) ?_; (with_reducible refine (footbridgelaw33_awake.calls kj3  t196 _ A10.out).mono ?_); rintro e w11 ⟨rfl, hb⟩; refine ⟨_, rfl, ?_⟩; have n0_ := Aside0.mk (blk_below (g := gb195) (o := .cells #[.string a0_0, .int .i64 a0_1] 45 (0, 0)) (by (with_reducible repeat (first | refine blk_drewN ?_ _ | refine blk_drew ?_ | refine blk_alloc ?_ _)); exact BK195.out) hb); have n1_ := Aside0.mk (below_step (by repeat (first | (with_reducible first | exact HB.out | apply below_alloc | apply pw_below_drewN | apply below_drew1 | refine below_set ?_ GE195.out) | exact HB.out)) hb); clear BK195; clear HB; have BK195 := n0_; have HB := n1_; clear n0_ n1_; (try clear hb); (try clear hb2); (try clear hk); (try clear hi)))
        go_ret
        exact ⟨by first | rfl | (simp [errW_none, errW_some] <;> rfl) | (simp [*, errW_none, errW_some] <;> rfl), by repeat (first | (with_reducible first | exact HB.out | apply below_alloc | apply pw_below_drewN | apply below_drew1 | refine below_set ?_ GE195.out) | exact HB.out)⟩
      · replace c9 := Bool.eq_false_iff.mpr c9
        subst c9
        have H1 : ((royalty_Put.f kj3 a0_0 a0_1 a1).bind fun bt197 => ((footbridgeref33_Put.f kj3 a0_0 a0_1 a1).bind fun bt199 => ((royalty_Read.f kj3 a1).bind fun bt201 => ((footbridgeref33_Read.f kj3 a1).bind fun bt206 => ((royalty_Share.f a0_0 a0_1 a2).bind fun bt211 => ((footbridgeref33_Share.f a0_0 a0_1 a2).bind fun bt213 => (if bt197.1.toList = bt199.1.toList then (if bt197.2 = bt199.2 then (if (bt201.1.toList == bt206.1.toList && (bt201.2.1 == bt206.2.1)) = true then (if bt201.2.2.1.toList = bt206.2.2.1.toList then (if bt201.2.2.2 = bt206.2.2.2 then ((royalty_Check.f kj3 a1).bind fun t215 => (if t215 = bt206.2.2.2 then (if bt211.1 = bt213.1 then (if bt211.2 = bt213.2 then ((footbridgelaw33_awake.f kj3).bind fun t216 => (some t216)) else (none)) else (none)) else (none))) else (none)) else (none)) else (none)) else (none)) else (none)))))))) = some r := by rw [if_neg (show ¬ (false = true) by decide)] at H; exact H
        clear H
        have H := H1
        clear H1
        replace H := Option.bind_eq_some_iff.mp H
        obtain ⟨⟨t197, t198⟩, A120, H⟩ := H
        replace H : ((footbridgeref33_Put.f kj3 a0_0 a0_1 a1).bind fun bt199 => ((royalty_Read.f kj3 a1).bind fun bt201 => ((footbridgeref33_Read.f kj3 a1).bind fun bt206 => ((royalty_Share.f a0_0 a0_1 a2).bind fun bt211 => ((footbridgeref33_Share.f a0_0 a0_1 a2).bind fun bt213 => (if t197.toList = bt199.1.toList then (if t198 = bt199.2 then (if (bt201.1.toList == bt206.1.toList && (bt201.2.1 == bt206.2.1)) = true then (if bt201.2.2.1.toList = bt206.2.2.1.toList then (if bt201.2.2.2 = bt206.2.2.2 then ((royalty_Check.f kj3 a1).bind fun t215 => (if t215 = bt206.2.2.2 then (if bt211.1 = bt213.1 then (if bt211.2 = bt213.2 then ((footbridgelaw33_awake.f kj3).bind fun t216 => (some t216)) else (none)) else (none)) else (none))) else (none)) else (none)) else (none)) else (none)) else (none))))))) = some r := H
        have A12 := Aside0.mk A120
        clear A120
        replace H := Option.bind_eq_some_iff.mp H
        obtain ⟨⟨t199, t200⟩, A130, H⟩ := H
        replace H : ((royalty_Read.f kj3 a1).bind fun bt201 => ((footbridgeref33_Read.f kj3 a1).bind fun bt206 => ((royalty_Share.f a0_0 a0_1 a2).bind fun bt211 => ((footbridgeref33_Share.f a0_0 a0_1 a2).bind fun bt213 => (if t197.toList = t199.toList then (if t198 = t200 then (if (bt201.1.toList == bt206.1.toList && (bt201.2.1 == bt206.2.1)) = true then (if bt201.2.2.1.toList = bt206.2.2.1.toList then (if bt201.2.2.2 = bt206.2.2.2 then ((royalty_Check.f kj3 a1).bind fun t215 => (if t215 = bt206.2.2.2 then (if bt211.1 = bt213.1 then (if bt211.2 = bt213.2 then ((footbridgelaw33_awake.f kj3).bind fun t216 => (some t216)) else (none)) else (none)) else (none))) else (none)) else (none)) else (none)) else (none)) else (none)))))) = some r := H
        have A13 := Aside0.mk A130
        clear A130
        replace H := Option.bind_eq_some_iff.mp H
        obtain ⟨⟨t201, t202, t203, t204⟩, A140, H⟩ := H
        replace H : ((footbridgeref33_Read.f kj3 a1).bind fun bt206 => ((royalty_Share.f a0_0 a0_1 a2).bind fun bt211 => ((footbridgeref33_Share.f a0_0 a0_1 a2).bind fun bt213 => (if t197.toList = t199.toList then (if t198 = t200 then (if (t201.toList == bt206.1.toList && (t202 == bt206.2.1)) = true then (if t203.toList = bt206.2.2.1.toList then (if t204 = bt206.2.2.2 then ((royalty_Check.f kj3 a1).bind fun t215 => (if t215 = bt206.2.2.2 then (if bt211.1 = bt213.1 then (if bt211.2 = bt213.2 then ((footbridgelaw33_awake.f kj3).bind fun t216 => (some t216)) else (none)) else (none)) else (none))) else (none)) else (none)) else (none)) else (none)) else (none))))) = some r := H
        have A14 := Aside0.mk A140
        clear A140
        replace H := Option.bind_eq_some_iff.mp H
        obtain ⟨⟨t206, t207, t208, t209⟩, A150, H⟩ := H
        replace H : ((royalty_Share.f a0_0 a0_1 a2).bind fun bt211 => ((footbridgeref33_Share.f a0_0 a0_1 a2).bind fun bt213 => (if t197.toList = t199.toList then (if t198 = t200 then (if (t201.toList == t206.toList && (t202 == t207)) = true then (if t203.toList = t208.toList then (if t204 = t209 then ((royalty_Check.f kj3 a1).bind fun t215 => (if t215 = t209 then (if bt211.1 = bt213.1 then (if bt211.2 = bt213.2 then ((footbridgelaw33_awake.f kj3).bind fun t216 => (some t216)) else (none)) else (none)) else (none))) else (none)) else (none)) else (none)) else (none)) else (none)))) = some r := H
        have A15 := Aside0.mk A150
        clear A150
        replace H := Option.bind_eq_some_iff.mp H
        obtain ⟨⟨t211, t212⟩, A160, H⟩ := H
        replace H : ((footbridgeref33_Share.f a0_0 a0_1 a2).bind fun bt213 => (if t197.toList = t199.toList then (if t198 = t200 then (if (t201.toList == t206.toList && (t202 == t207)) = true then (if t203.toList = t208.toList then (if t204 = t209 then ((royalty_Check.f kj3 a1).bind fun t215 => (if t215 = t209 then (if t211 = bt213.1 then (if t212 = bt213.2 then ((footbridgelaw33_awake.f kj3).bind fun t216 => (some t216)) else (none)) else (none)) else (none))) else (none)) else (none)) else (none)) else (none)) else (none))) = some r := H
        have A16 := Aside0.mk A160
        clear A160
        replace H := Option.bind_eq_some_iff.mp H
        obtain ⟨⟨t213, t214⟩, A170, H⟩ := H
        replace H : (if t197.toList = t199.toList then (if t198 = t200 then (if (t201.toList == t206.toList && (t202 == t207)) = true then (if t203.toList = t208.toList then (if t204 = t209 then ((royalty_Check.f kj3 a1).bind fun t215 => (if t215 = t209 then (if t211 = t213 then (if t212 = t214 then ((footbridgelaw33_awake.f kj3).bind fun t216 => (some t216)) else (none)) else (none)) else (none))) else (none)) else (none)) else (none)) else (none)) else (none)) = some r := H
        have A17 := Aside0.mk A170
        clear A170
        by_cases c18 : t197.toList = t199.toList
        · rw [if_pos c18] at H
          have c18b0 : (t197.toList == t199.toList) = true := beq_iff_eq.mpr c18
          have c18b1 : (t197.toList != t199.toList) = false := bne_eq_false_iff_eq.mpr c18
          clear c18
          by_cases c19 : t198 = t200
          · rw [if_pos c19] at H
            have c19b0 : (t198 == t200) = true := beq_iff_eq.mpr c19
            have c19b1 : (t198 != t200) = false := bne_eq_false_iff_eq.mpr c19
            clear c19
            by_cases c20 : (t201.toList == t206.toList && (t202 == t207)) = true
            · rw [if_pos c20] at H
              have c20b0 : (t201.toList == t206.toList && (t202 == t207)) = true := c20
              (try (have c20b1 : decide (t201.toList = t206.toList && (t202 == t207)) = true := by simpa using c20))
              (try (have c20b2 : (t201.toList == t206.toList && (t202 == t207)) = true := by simpa using c20))
              clear c20
              by_cases c21 : t203.toList = t208.toList
              · rw [if_pos c21] at H
                have c21b0 : (t203.toList == t208.toList) = true := beq_iff_eq.mpr c21
                have c21b1 : (t203.toList != t208.toList) = false := bne_eq_false_iff_eq.mpr c21
                clear c21
                by_cases c22 : t204 = t209
                · rw [if_pos c22] at H
                  have c22b0 : (t204 == t209) = true := beq_iff_eq.mpr c22
                  have c22b1 : (t204 != t209) = false := bne_eq_false_iff_eq.mpr c22
                  clear c22
                  replace H := Option.bind_eq_some_iff.mp H
                  obtain ⟨t215, A230, H⟩ := H
                  replace H : (if t215 = t209 then (if t211 = t213 then (if t212 = t214 then ((footbridgelaw33_awake.f kj3).bind fun t216 => (some t216)) else (none)) else (none)) else (none)) = some r := H
                  have A23 := Aside0.mk A230
                  clear A230
                  by_cases c24 : t215 = t209
                  · rw [if_pos c24] at H
                    have c24b0 : (t215 == t209) = true := beq_iff_eq.mpr c24
                    have c24b1 : (t215 != t209) = false := bne_eq_false_iff_eq.mpr c24
                    clear c24
                    by_cases c25 : t211 = t213
                    · rw [if_pos c25] at H
                      have c25b0 : (t211 == t213) = true := beq_iff_eq.mpr c25
                      have c25b1 : (t211 != t213) = false := bne_eq_false_iff_eq.mpr c25
                      clear c25
                      by_cases c26 : t212 = t214
                      · rw [if_pos c26] at H
                        have c26b0 : (t212 == t214) = true := beq_iff_eq.mpr c26
                        have c26b1 : (t212 != t214) = false := bne_eq_false_iff_eq.mpr c26
                        clear c26
                        replace H := Option.bind_eq_some_iff.mp H
                        obtain ⟨t216, A270, H⟩ := H
                        replace H : (some t216) = some r := H
                        have A27 := Aside0.mk A270
                        clear A270
                        obtain rfl := Option.some.inj H
                        have hcz28_0 : wc.cell? ⟨gb195, 0, none⟩ = some (.string a0_0) := (blk_cell BK195.out 0).trans rfl
                        have hcz28_1 : wc.cell? ⟨gb195, 1, none⟩ = some (.int .i64 a0_1) := (blk_cell BK195.out 1).trans rfl
                        have hfz28_0 := blk_frozen BK195.out 0
                        have hfz28_1 := blk_frozen BK195.out 1
                        go_wp2_with (first | ((with_reducible refine gate_callee (f := 33) rfl ?_); refine goesL_ (some 34) rfl rfl Try.func33 (by kernel_rfl) rfl #[.agg #[.string a0_0, .int .i64 a0_1], .string a1] rfl (by (try simp only [List.map_toArray, List.map_cons, List.map_nil]); first | done | rfl | (simp only [List.length_drop, List.length_take]; rfl)) ?_; (with_reducible refine (royalty_Put.calls kj3 a0_0 a0_1 a1 t197 t198 _ A12.out).mono ?_); rintro e w29 ⟨rfl, hb⟩; refine ⟨_, rfl, ?_⟩; have n0_ := Aside0.mk (blk_below (g := gb195) (o := .cells #[.string a0_0, .int .i64 a0_1] 45 (0, 0)) (by (with_reducible repeat (first | refine blk_drewN ?_ _ | refine blk_drew ?_ | refine blk_alloc ?_ _)); exact BK195.out) hb); have n1_ := Aside0.mk (below_step (by repeat (first | (with_reducible first | exact HB.out | apply below_alloc | apply pw_below_drewN | apply below_drew1 | refine below_set ?_ GE195.out) | exact HB.out)) hb); clear BK195; clear HB; have BK195 := n0_; have HB := n1_; clear n0_ n1_; (try clear hb); (try clear hb2); (try clear hk); (try clear hi); have hcz30_0 : w29.cell? ⟨gb195, 0, none⟩ = some (.string a0_0) := (blk_cell BK195.out 0).trans rfl; have hcz30_1 : w29.cell? ⟨gb195, 1, none⟩ = some (.int .i64 a0_1) := (blk_cell BK195.out 1).trans rfl; have hfz30_0 := blk_frozen BK195.out 0; have hfz30_1 := blk_frozen BK195.out 1) | ((with_reducible refine gate_callee (f := 34) rfl ?_); refine goesL_ (some 40) rfl rfl Try.func34 (by kernel_rfl) rfl #[.agg #[.string a0_0, .int .i64 a0_1], .string a1] rfl (by (try simp only [List.map_toArray, List.map_cons, List.map_nil]); first | done | rfl | (simp only [List.length_drop, List.length_take]; rfl)) ?_; (with_reducible refine (footbridgeref33_Put.calls kj3 a0_0 a0_1 a1 t199 t200 _ A13.out).mono ?_); rintro e w31 ⟨rfl, hb⟩; refine ⟨_, rfl, ?_⟩; have n0_ := Aside0.mk (blk_below (g := gb195) (o := .cells #[.string a0_0, .int .i64 a0_1] 45 (0, 0)) (by (with_reducible repeat (first | refine blk_drewN ?_ _ | refine blk_drew ?_ | refine blk_alloc ?_ _)); exact BK195.out) hb); have n1_ := Aside0.mk (below_step (by repeat (first | (with_reducible first | exact HB.out | apply below_alloc | apply pw_below_drewN | apply below_drew1 | refine below_set ?_ GE195.out) | exact HB.out)) hb); clear BK195; clear HB; have BK195 := n0_; have HB := n1_; clear n0_ n1_; (try clear hb); (try clear hb2); (try clear hk); (try clear hi)) | ((with_reducible refine gate_callee (f := 35) rfl ?_); refine goesL_ (some 45) rfl rfl Try.func35 (by kernel_rfl) rfl #[.string a1] rfl (by (try simp only [List.map_toArray, List.map_cons, List.map_nil]); first | done | rfl | (simp only [List.length_drop, List.length_take]; rfl)) ?_; (with_reducible refine (royalty_Read.calls kj3 a1 t201 t202 t203 t204 _ A14.out).mono ?_); rintro e w32 ⟨rfl, hb⟩; refine ⟨_, rfl, ?_⟩; have n0_ := Aside0.mk (blk_below (g := gb195) (o := .cells #[.string a0_0, .int .i64 a0_1] 45 (0, 0)) (by (with_reducible repeat (first | refine blk_drewN ?_ _ | refine blk_drew ?_ | refine blk_alloc ?_ _)); exact BK195.out) hb); have n1_ := Aside0.mk (below_step (by repeat (first | (with_reducible first | exact HB.out | apply below_alloc | apply pw_below_drewN | apply below_drew1 | refine below_set ?_ GE195.out) | exact HB.out)) hb); clear BK195; clear HB; have BK195 := n0_; have HB := n1_; clear n0_ n1_; (try clear hb); (try clear hb2); (try clear hk); (try clear hi)) | ((with_reducible refine gate_dst (N := 11) rfl ?_); (try (refine gate_guard (by rfl) ?_; dsimp only)); refine box_event ?hg (N := 11) ?hd (cs := #[.string (⟨#[]⟩ : ByteArray), .int .i64 0]) (t := 45) ?hr ?_; (case hd => rfl); (case hg => rfl); (case hr => first | (go_simp; done) | (go_simp; rfl)); intro gb205 hg w33 hbox hb; have n0_ := Aside0.mk (blk_below (g := gb195) (o := .cells #[.string a0_0, .int .i64 a0_1] 45 (0, 0)) (by (with_reducible repeat (first | refine blk_drewN ?_ _ | refine blk_drew ?_ | refine blk_alloc ?_ _)); exact BK195.out) hb); have n1_ := Aside0.mk (below_step (by repeat (first | (with_reducible first | exact HB.out | apply below_alloc | apply pw_below_drewN | apply below_drew1 | refine below_set ?_ GE195.out) | exact HB.out)) hb); have n2_ := Aside0.mk (hbox); have n3_ := Aside0.mk ((by rw [hg]; exact (below_size (by repeat (first | (with_reducible first | exact HB.out | apply below_alloc | apply pw_below_drewN | apply below_drew1 | refine below_set ?_ GE195.out) | exact HB.out))) : w.heap.size ≤ gb205)); have n4_ := Aside0.mk ((by rw [hg]; exact (below_size (by repeat (first | (with_reducible first | exact HB.out | apply below_alloc | apply pw_below_drewN | apply below_drew1 | refine below_set ?_ GE195.out) | exact HB.out))) : w.heap.size ≤ gb205)); have n5_ := Aside0.mk ((by rw [hg]; exact Nat.ne_of_lt (blk_lt (g := gb195) (o := .cells #[.string a0_0, .int .i64 a0_1] 45 (0, 0)) (by (with_reducible repeat (first | refine blk_drewN ?_ _ | refine blk_drew ?_ | refine blk_alloc ?_ _)); exact BK195.out)) : gb195 ≠ gb205)); have n6_ := Aside0.mk ((by rw [hg]; exact Nat.ne_of_gt (blk_lt (g := gb195) (o := .cells #[.string a0_0, .int .i64 a0_1] 45 (0, 0)) (by (with_reducible repeat (first | refine blk_drewN ?_ _ | refine blk_drew ?_ | refine blk_alloc ?_ _)); exact BK195.out)) : gb205 ≠ gb195)); clear BK195; clear HB; have BK195 := n0_; have HB := n1_; have BK205 := n2_; have GW205 := n3_; have GE205 := n4_; have NB195_205 := n5_; have NB205_195 := n6_; clear n0_ n1_ n2_ n3_ n4_ n5_ n6_; clear hb hbox hg; have hnb34 := NB205_195.out; have hnc34 := NB195_205.out; have hcz35_0 : w33.cell? ⟨gb205, 0, none⟩ = some (.string (⟨#[]⟩ : ByteArray)) := (blk_cell BK205.out 0).trans rfl; have hcz35_1 : w33.cell? ⟨gb205, 1, none⟩ = some (.int .i64 0) := (blk_cell BK205.out 1).trans rfl; have hfz35_0 := blk_frozen BK205.out 0; have hfz35_1 := blk_frozen BK205.out 1) | ((with_reducible refine gate_callee (f := 36) rfl ?_); refine goesL_ (some 51) rfl rfl Try.func36 (by kernel_rfl) rfl #[.string a1] rfl (by (try simp only [List.map_toArray, List.map_cons, List.map_nil]); first | done | rfl | (simp only [List.length_drop, List.length_take]; rfl)) ?_; (with_reducible refine (footbridgeref33_Read.calls kj3 a1 t206 t207 t208 t209 _ A15.out).mono ?_); rintro e w36 ⟨rfl, hb⟩; refine ⟨_, rfl, ?_⟩; have n0_ := Aside0.mk (blk_below (g := gb195) (o := .cells #[.string a0_0, .int .i64 a0_1] 45 (0, 0)) (by (with_reducible repeat (first | refine blk_drewN ?_ _ | refine blk_drew ?_ | refine blk_alloc ?_ _)); refine blk_far ?_ NB195_205.out _; (with_reducible repeat (first | refine blk_drewN ?_ _ | refine blk_drew ?_ | refine blk_alloc ?_ _)); refine blk_far ?_ NB195_205.out _; (with_reducible repeat (first | refine blk_drewN ?_ _ | refine blk_drew ?_ | refine blk_alloc ?_ _)); exact BK195.out) hb); have n1_ := Aside0.mk (blk_below (g := gb205) (o := .cells #[.string t201, .int .i64 t202] 45 (0, 0)) (by (with_reducible repeat (first | refine blk_drewN ?_ _ | refine blk_drew ?_ | refine blk_alloc ?_ _)); refine blk_put (cs := #[.string t201, .int .i64 0]) ?_ 1 _ rfl; (with_reducible repeat (first | refine blk_drewN ?_ _ | refine blk_drew ?_ | refine blk_alloc ?_ _)); refine blk_put (cs := #[.string (⟨#[]⟩ : ByteArray), .int .i64 0]) ?_ 0 _ rfl; (with_reducible repeat (first | refine blk_drewN ?_ _ | refine blk_drew ?_ | refine blk_alloc ?_ _)); exact BK205.out) hb); have n2_ := Aside0.mk (below_step (by repeat (first | (with_reducible first | exact HB.out | apply below_alloc | apply pw_below_drewN | apply below_drew1 | refine below_set ?_ GE195.out | refine below_set ?_ GE205.out) | exact HB.out)) hb); clear BK195; clear BK205; clear HB; have BK195 := n0_; have BK205 := n1_; have HB := n2_; clear n0_ n1_ n2_; (try clear hb); (try clear hb2); (try clear hk); (try clear hi)) | ((with_reducible refine gate_dst (N := 14) rfl ?_); (try (refine gate_guard (by rfl) ?_; dsimp only)); refine box_event ?hg (N := 14) ?hd (cs := #[.string (⟨#[]⟩ : ByteArray), .int .i64 0]) (t := 45) ?hr ?_; (case hd => rfl); (case hg => rfl); (case hr => first | (go_simp; done) | (go_simp; rfl)); intro gb210 hg w37 hbox hb; have n0_ := Aside0.mk (blk_below (g := gb195) (o := .cells #[.string a0_0, .int .i64 a0_1] 45 (0, 0)) (by (with_reducible repeat (first | refine blk_drewN ?_ _ | refine blk_drew ?_ | refine blk_alloc ?_ _)); exact BK195.out) hb); have n1_ := Aside0.mk (blk_below (g := gb205) (o := .cells #[.string t201, .int .i64 t202] 45 (0, 0)) (by (with_reducible repeat (first | refine blk_drewN ?_ _ | refine blk_drew ?_ | refine blk_alloc ?_ _)); exact BK205.out) hb); have n2_ := Aside0.mk (below_step (by repeat (first | (with_reducible first | exact HB.out | apply below_alloc | apply pw_below_drewN | apply below_drew1 | refine below_set ?_ GE195.out | refine below_set ?_ GE205.out) | exact HB.out)) hb); have n3_ := Aside0.mk (hbox); have n4_ := Aside0.mk ((by rw [hg]; exact (below_size (by repeat (first | (with_reducible first | exact HB.out | apply below_alloc | apply pw_below_drewN | apply below_drew1 | refine below_set ?_ GE195.out | refine below_set ?_ GE205.out) | exact HB.out))) : w.heap.size ≤ gb210)); have n5_ := Aside0.mk ((by rw [hg]; exact (below_size (by repeat (first | (with_reducible first | exact HB.out | apply below_alloc | apply pw_below_drewN | apply below_drew1 | refine below_set ?_ GE195.out | refine below_set ?_ GE205.out) | exact HB.out))) : w.heap.size ≤ gb210)); have n6_ := Aside0.mk ((by rw [hg]; exact Nat.ne_of_lt (blk_lt (g := gb195) (o := .cells #[.string a0_0, .int .i64 a0_1] 45 (0, 0)) (by (with_reducible repeat (first | refine blk_drewN ?_ _ | refine blk_drew ?_ | refine blk_alloc ?_ _)); exact BK195.out)) : gb195 ≠ gb210)); have n7_ := Aside0.mk ((by rw [hg]; exact Nat.ne_of_gt (blk_lt (g := gb195) (o := .cells #[.string a0_0, .int .i64 a0_1] 45 (0, 0)) (by (with_reducible repeat (first | refine blk_drewN ?_ _ | refine blk_drew ?_ | refine blk_alloc ?_ _)); exact BK195.out)) : gb210 ≠ gb195)); have n8_ := Aside0.mk ((by rw [hg]; exact Nat.ne_of_lt (blk_lt (g := gb205) (o := .cells #[.string t201, .int .i64 t202] 45 (0, 0)) (by (with_reducible repeat (first | refine blk_drewN ?_ _ | refine blk_drew ?_ | refine blk_alloc ?_ _)); exact BK205.out)) : gb205 ≠ gb210)); have n9_ := Aside0.mk ((by rw [hg]; exact Nat.ne_of_gt (blk_lt (g := gb205) (o := .cells #[.string t201, .int .i64 t202] 45 (0, 0)) (by (with_reducible repeat (first | refine blk_drewN ?_ _ | refine blk_drew ?_ | refine blk_alloc ?_ _)); exact BK205.out)) : gb210 ≠ gb205)); clear BK195; clear BK205; clear HB; have BK195 := n0_; have BK205 := n1_; have HB := n2_; have BK210 := n3_; have GW210 := n4_; have GE210 := n5_; have NB195_210 := n6_; have NB210_195 := n7_; have NB205_210 := n8_; have NB210_205 := n9_; clear n0_ n1_ n2_ n3_ n4_ n5_ n6_ n7_ n8_ n9_; clear hb hbox hg; have hnb38 := NB210_195.out; have hnc38 := NB195_210.out; have hnb39 := NB210_205.out; have hnc39 := NB205_210.out; have hcz40_0 : w37.cell? ⟨gb210, 0, none⟩ = some (.string (⟨#[]⟩ : ByteArray)) := (blk_cell BK210.out 0).trans rfl; have hcz40_1 : w37.cell? ⟨gb210, 1, none⟩ = some (.int .i64 0) := (blk_cell BK210.out 1).trans rfl; have hfz40_0 := blk_frozen BK210.out 0; have hfz40_1 := blk_frozen BK210.out 1; have hcz41_0 : w37.cell? ⟨gb195, 0, none⟩ = some (.string a0_0) := (blk_cell BK195.out 0).trans rfl; have hcz41_1 : w37.cell? ⟨gb195, 1, none⟩ = some (.int .i64 a0_1) := (blk_cell BK195.out 1).trans rfl; have hfz41_0 := blk_frozen BK195.out 0; have hfz41_1 := blk_frozen BK195.out 1) | ((with_reducible refine gate_callee (f := 37) rfl ?_); refine goesL_ (some 58) rfl rfl Try.func37 (by kernel_rfl) rfl #[.agg #[.string a0_0, .int .i64 a0_1], .int .i64 a2] rfl (by (try simp only [List.map_toArray, List.map_cons, List.map_nil]); first | done | rfl | (simp only [List.length_drop, List.length_take]; rfl)) ?_; (with_reducible refine (royalty_Share.calls a0_0 a0_1 a2 t211 t212 _ A16.out).mono ?_); rintro e w42 ⟨rfl, hb⟩; refine ⟨_, rfl, ?_⟩; have n0_ := Aside0.mk (blk_below (g := gb195) (o := .cells #[.string a0_0, .int .i64 a0_1] 45 (0, 0)) (by (with_reducible repeat (first | refine blk_drewN ?_ _ | refine blk_drew ?_ | refine blk_alloc ?_ _)); refine blk_far ?_ NB195_210.out _; (with_reducible repeat (first | refine blk_drewN ?_ _ | refine blk_drew ?_ | refine blk_alloc ?_ _)); refine blk_far ?_ NB195_210.out _; (with_reducible repeat (first | refine blk_drewN ?_ _ | refine blk_drew ?_ | refine blk_alloc ?_ _)); exact BK195.out) hb); have n1_ := Aside0.mk (blk_below (g := gb205) (o := .cells #[.string t201, .int .i64 t202] 45 (0, 0)) (by (with_reducible repeat (first | refine blk_drewN ?_ _ | refine blk_drew ?_ | refine blk_alloc ?_ _)); refine blk_far ?_ NB205_210.out _; (with_reducible repeat (first | refine blk_drewN ?_ _ | refine blk_drew ?_ | refine blk_alloc ?_ _)); refine blk_far ?_ NB205_210.out _; (with_reducible repeat (first | refine blk_drewN ?_ _ | refine blk_drew ?_ | refine blk_alloc ?_ _)); exact BK205.out) hb); have n2_ := Aside0.mk (blk_below (g := gb210) (o := .cells #[.string t206, .int .i64 t207] 45 (0, 0)) (by (with_reducible repeat (first | refine blk_drewN ?_ _ | refine blk_drew ?_ | refine blk_alloc ?_ _)); refine blk_put (cs := #[.string t206, .int .i64 0]) ?_ 1 _ rfl; (with_reducible repeat (first | refine blk_drewN ?_ _ | refine blk_drew ?_ | refine blk_alloc ?_ _)); refine blk_put (cs := #[.string (⟨#[]⟩ : ByteArray), .int .i64 0]) ?_ 0 _ rfl; (with_reducible repeat (first | refine blk_drewN ?_ _ | refine blk_drew ?_ | refine blk_alloc ?_ _)); exact BK210.out) hb); have n3_ := Aside0.mk (below_step (by repeat (first | (with_reducible first | exact HB.out | apply below_alloc | apply pw_below_drewN | apply below_drew1 | refine below_set ?_ GE195.out | refine below_set ?_ GE205.out | refine below_set ?_ GE210.out) | exact HB.out)) hb); clear BK195; clear BK205; clear BK210; clear HB; have BK195 := n0_; have BK205 := n1_; have BK210 := n2_; have HB := n3_; clear n0_ n1_ n2_ n3_; (try clear hb); (try clear hb2); (try clear hk); (try clear hi); have hcz43_0 : w42.cell? ⟨gb195, 0, none⟩ = some (.string a0_0) := (blk_cell BK195.out 0).trans rfl; have hcz43_1 : w42.cell? ⟨gb195, 1, none⟩ = some (.int .i64 a0_1) := (blk_cell BK195.out 1).trans rfl; have hfz43_0 := blk_frozen BK195.out 0; have hfz43_1 := blk_frozen BK195.out 1) | ((with_reducible refine gate_callee (f := 38) rfl ?_); refine goesL_ (some 64) rfl rfl Try.func38 (by kernel_rfl) rfl #[.agg #[.string a0_0, .int .i64 a0_1], .int .i64 a2] rfl (by (try simp only [List.map_toArray, List.map_cons, List.map_nil]); first | done | rfl | (simp only [List.length_drop, List.length_take]; rfl)) ?_; (with_reducible refine (footbridgeref33_Share.calls a0_0 a0_1 a2 t213 t214 _ A17.out).mono ?_); rintro e w44 ⟨rfl, hb⟩; refine ⟨_, rfl, ?_⟩; have n0_ := Aside0.mk (blk_below (g := gb195) (o := .cells #[.string a0_0, .int .i64 a0_1] 45 (0, 0)) (by (with_reducible repeat (first | refine blk_drewN ?_ _ | refine blk_drew ?_ | refine blk_alloc ?_ _)); exact BK195.out) hb); have n1_ := Aside0.mk (blk_below (g := gb205) (o := .cells #[.string t201, .int .i64 t202] 45 (0, 0)) (by (with_reducible repeat (first | refine blk_drewN ?_ _ | refine blk_drew ?_ | refine blk_alloc ?_ _)); exact BK205.out) hb); have n2_ := Aside0.mk (blk_below (g := gb210) (o := .cells #[.string t206, .int .i64 t207] 45 (0, 0)) (by (with_reducible repeat (first | refine blk_drewN ?_ _ | refine blk_drew ?_ | refine blk_alloc ?_ _)); exact BK210.out) hb); have n3_ := Aside0.mk (below_step (by repeat (first | (with_reducible first | exact HB.out | apply below_alloc | apply pw_below_drewN | apply below_drew1 | refine below_set ?_ GE195.out | refine below_set ?_ GE205.out | refine below_set ?_ GE210.out) | exact HB.out)) hb); clear BK195; clear BK205; clear BK210; clear HB; have BK195 := n0_; have BK205 := n1_; have BK210 := n2_; have HB := n3_; clear n0_ n1_ n2_ n3_; (try clear hb); (try clear hb2); (try clear hk); (try clear hi); have hcz45_0 : w44.cell? ⟨gb205, 0, none⟩ = some (.string t201) := (blk_cell BK205.out 0).trans rfl; have hcz45_1 : w44.cell? ⟨gb205, 1, none⟩ = some (.int .i64 t202) := (blk_cell BK205.out 1).trans rfl; have hfz45_0 := blk_frozen BK205.out 0; have hfz45_1 := blk_frozen BK205.out 1; have hcz46_0 : w44.cell? ⟨gb210, 0, none⟩ = some (.string t206) := (blk_cell BK210.out 0).trans rfl; have hcz46_1 : w44.cell? ⟨gb210, 1, none⟩ = some (.int .i64 t207) := (blk_cell BK210.out 1).trans rfl; have hfz46_0 := blk_frozen BK210.out 0; have hfz46_1 := blk_frozen BK210.out 1) | (go_at_call 39; (with_reducible refine (royalty_Check.calls kj3 a1 t215 _ A23.out).mono ?_); rintro e w47 ⟨rfl, hb⟩; have n0_ := Aside0.mk (blk_below (g := gb195) (o := .cells #[.string a0_0, .int .i64 a0_1] 45 (0, 0)) (by (with_reducible repeat (first | refine blk_drewN ?_ _ | refine blk_drew ?_ | refine blk_alloc ?_ _)); exact BK195.out) hb); have n1_ := Aside0.mk (blk_below (g := gb205) (o := .cells #[.string t201, .int .i64 t202] 45 (0, 0)) (by (with_reducible repeat (first | refine blk_drewN ?_ _ | refine blk_drew ?_ | refine blk_alloc ?_ _)); exact BK205.out) hb); have n2_ := Aside0.mk (blk_below (g := gb210) (o := .cells #[.string t206, .int .i64 t207] 45 (0, 0)) (by (with_reducible repeat (first | refine blk_drewN ?_ _ | refine blk_drew ?_ | refine blk_alloc ?_ _)); exact BK210.out) hb); have n3_ := Aside0.mk (below_step (by repeat (first | (with_reducible first | exact HB.out | apply below_alloc | apply pw_below_drewN | apply below_drew1 | refine below_set ?_ GE195.out | refine below_set ?_ GE205.out | refine below_set ?_ GE210.out) | exact HB.out)) hb); clear BK195; clear BK205; clear BK210; clear HB; have BK195 := n0_; have BK205 := n1_; have BK210 := n2_; have HB := n3_; clear n0_ n1_ n2_ n3_; (try clear hb); (try clear hb2); (try clear hk); (try clear hi)) | (go_at_call 32; (with_reducible refine (footbridgelaw33_awake.calls kj3  t216 _ A27.out).mono ?_); rintro e w48 ⟨rfl, hb⟩; have n0_ := Aside0.mk (blk_below (g := gb195) (o := .cells #[.string a0_0, .int .i64 a0_1] 45 (0, 0)) (by (with_reducible repeat (first | refine blk_drewN ?_ _ | refine blk_drew ?_ | refine blk_alloc ?_ _)); exact BK195.out) hb); have n1_ := Aside0.mk (blk_below (g := gb205) (o := .cells #[.string t201, .int .i64 t202] 45 (0, 0)) (by (with_reducible repeat (first | refine blk_drewN ?_ _ | refine blk_drew ?_ | refine blk_alloc ?_ _)); exact BK205.out) hb); have n2_ := Aside0.mk (blk_below (g := gb210) (o := .cells #[.string t206, .int .i64 t207] 45 (0, 0)) (by (with_reducible repeat (first | refine blk_drewN ?_ _ | refine blk_drew ?_ | refine blk_alloc ?_ _)); exact BK210.out) hb); have n3_ := Aside0.mk (below_step (by repeat (first | (with_reducible first | exact HB.out | apply below_alloc | apply pw_below_drewN | apply below_drew1 | refine below_set ?_ GE195.out | refine below_set ?_ GE205.out | refine below_set ?_ GE210.out) | exact HB.out)) hb); clear BK195; clear BK205; clear BK210; clear HB; have BK195 := n0_; have BK205 := n1_; have BK210 := n2_; have HB := n3_; clear n0_ n1_ n2_ n3_; (try clear hb); (try clear hb2); (try clear hk); (try clear hi)))
                        go_ret
                        exact ⟨by first | rfl | (simp [errW_none, errW_some] <;> rfl) | (simp [*, errW_none, errW_some] <;> rfl), by repeat (first | (with_reducible first | exact HB.out | apply below_alloc | apply pw_below_drewN | apply below_drew1 | refine below_set ?_ GE195.out | refine below_set ?_ GE205.out | refine below_set ?_ GE210.out) | exact HB.out)⟩
                      · rw [if_neg c26] at H
                        exact absurd H (by simp)
                    · rw [if_neg c25] at H
                      exact absurd H (by simp)
                  · rw [if_neg c24] at H
                    exact absurd H (by simp)
                · rw [if_neg c22] at H
                  exact absurd H (by simp)
              · rw [if_neg c21] at H
                exact absurd H (by simp)
            · rw [if_neg c20] at H
              exact absurd H (by simp)
          · rw [if_neg c19] at H
            exact absurd H (by simp)
        · rw [if_neg c18] at H
          exact absurd H (by simp)

/-! ### footbridgelaw33_RoyaltyBack: function 11 -/
def footbridgelaw33_RoyaltyBack.j0 : Nat → ByteArray → Bool → ByteArray → Int → Int → Int → Option (Bool)
  | 0, _, _, _, _, _, _ => none
  | k + 1, x1, x24, x218000, x218001, x219000, x219001 => if x24 = true then ((footbridgelaw33_awake.f k).bind fun t219 => (some t219)) else ((royalty_Put.f k x218000 x218001 x1).bind fun bt220 => (if bt220.2 = 0 then ((royalty_Read.f k bt220.1).bind fun bt223 => ((royalty_Share.f x218000 x218001 (mn (wrap64 (x219000)) (wrap64 (x219001)))).bind fun bt228 => ((royalty_Share.f x218000 x218001 (mx (wrap64 (x219000)) (wrap64 (x219001)))).bind fun bt230 => (if (bt223.1.toList == x218000.toList && (bt223.2.1 == x218001)) = true then (if bt223.2.2.1.toList = x1.toList then (if bt223.2.2.2 = 0 then (if bt228.2 = 0 then (if bt230.2 = 0 then (if bt228.1 ≤ bt230.1 then (if bt230.1 ≤ (mx (wrap64 (x219000)) (wrap64 (x219001))) then (if bt228.1 ≥ 0 then ((footbridgelaw33_awake.f k).bind fun t232 => (some t232)) else (none)) else (none)) else (none)) else (none)) else (none)) else (none)) else (none)) else (none))))) else (if bt220.1.toList = ([] : List UInt8) then ((footbridgelaw33_awake.f k).bind fun t222 => (some t222)) else (none))))
def footbridgelaw33_RoyaltyBack.f (k : Nat) (a0_0 : ByteArray) (a0_1 : Int) (a1 : ByteArray) (a2_0 : Int) (a2_1 : Int) : Option (Bool) := if (a0_0.size : Int) > 300 then (footbridgelaw33_RoyaltyBack.j0 k a1 true a0_0 a0_1 a2_0 a2_1) else (footbridgelaw33_RoyaltyBack.j0 k a1 (decide ((a1.size : Int) > 1000)) a0_0 a0_1 a2_0 a2_1)
theorem footbridgelaw33_RoyaltyBack.mono_l : ∀ k, (∀ y0 y1 y2 y3 y4 y5, LeO (footbridgelaw33_RoyaltyBack.j0 k y0 y1 y2 y3 y4 y5) (footbridgelaw33_RoyaltyBack.j0 (k + 1) y0 y1 y2 y3 y4 y5))
  | 0 => fun _ _ _ _ _ _ r h => by simp [footbridgelaw33_RoyaltyBack.j0] at h
  | k + 1 => by
    have ih0 := footbridgelaw33_RoyaltyBack.mono_l k
    · intro y0 y1 y2 y3 y4 y5
      unfold footbridgelaw33_RoyaltyBack.j0
      repeat' first
      | (with_reducible exact ih0 _ _ _ _ _ _)
      | (with_reducible exact footbridgelaw33_awake.mono _)
      | (with_reducible exact royalty_Put.mono _ _ _ _)
      | (with_reducible exact royalty_Read.mono _ _)
      | (with_reducible exact LeO.refl _)
      | (with_reducible exact LeO.none _)
      | (with_reducible refine LeO.ite ?_ ?_)
      | (with_reducible refine LeO.bind ?_ (fun _ => ?_))
      | exact ih0 _ _ _ _ _ _
      | exact footbridgelaw33_awake.mono _
      | exact royalty_Put.mono _ _ _ _
      | exact royalty_Read.mono _ _
      | exact LeO.none _
      | refine LeO.ite ?_ ?_
      | refine LeO.bind ?_ (fun _ => ?_)
theorem footbridgelaw33_RoyaltyBack.mono : ∀ a0 a1 a2 a3 a4 k, LeO (footbridgelaw33_RoyaltyBack.f k a0 a1 a2 a3 a4) (footbridgelaw33_RoyaltyBack.f (k + 1) a0 a1 a2 a3 a4) := by
  intro a0 a1 a2 a3 a4 k
  have ih0 := footbridgelaw33_RoyaltyBack.mono_l k
  unfold footbridgelaw33_RoyaltyBack.f
  repeat' first
      | (with_reducible exact ih0 _ _ _ _ _ _)
      | (with_reducible exact footbridgelaw33_awake.mono _)
      | (with_reducible exact royalty_Put.mono _ _ _ _)
      | (with_reducible exact royalty_Read.mono _ _)
      | (with_reducible exact LeO.refl _)
      | (with_reducible exact LeO.none _)
      | (with_reducible refine LeO.ite ?_ ?_)
      | (with_reducible refine LeO.bind ?_ (fun _ => ?_))
      | exact ih0 _ _ _ _ _ _
      | exact footbridgelaw33_awake.mono _
      | exact royalty_Put.mono _ _ _ _
      | exact royalty_Read.mono _ _
      | exact LeO.none _
      | refine LeO.ite ?_ ?_
      | refine LeO.bind ?_ (fun _ => ?_)
set_option maxHeartbeats 8000000 in
set_option maxRecDepth 100000 in
theorem footbridgelaw33_RoyaltyBack.calls (k : Nat) (a0_0 : ByteArray) (a0_1 : Int) (a1 : ByteArray) (a2_0 : Int) (a2_1 : Int) (r : Bool) (w : World) (h : footbridgelaw33_RoyaltyBack.f k a0_0 a0_1 a1 a2_0 a2_1 = some r) :
    Calls Try.prog 11 #[.agg #[.string a0_0, .int .i64 a0_1], .string a1, .agg #[.int .u32 a2_0, .int .u32 a2_1]] w fun e w' => e = .returned (.bool r) ∧ Below w.heap.size w w' := by
  have hu45 := Try.underlying45
  have hu57 := Try.underlying57
  have HB := Aside0.mk (Below.refl w.heap.size w)
  have H : (if (a0_0.size : Int) > 300 then (footbridgelaw33_RoyaltyBack.j0 k a1 true a0_0 a0_1 a2_0 a2_1) else (footbridgelaw33_RoyaltyBack.j0 k a1 (decide ((a1.size : Int) > 1000)) a0_0 a0_1 a2_0 a2_1)) = some r := h
  clear h
  have HC4 := Aside0.mk H
  clear H
  go_enter Try.func11, Try.ntmps11
  go_upto_region 1 with (first | ((with_reducible refine gate_dst (N := 3) rfl ?_); (try (refine gate_guard (by rfl) ?_; dsimp only)); refine box_event ?hg (N := 3) ?hd (cs := #[.string a0_0, .int .i64 a0_1]) (t := 45) ?hr ?_; (case hd => rfl); (case hg => rfl); (case hr => first | (go_simp; done) | (go_simp; rfl)); intro gb217 hg w5 hbox hb; have n0_ := Aside0.mk (below_step (by repeat (first | (with_reducible first | exact HB.out | apply below_alloc | apply pw_below_drewN | apply below_drew1) | exact HB.out)) hb); have n1_ := Aside0.mk (hbox); have n2_ := Aside0.mk ((by rw [hg]; exact (below_size (by repeat (first | (with_reducible first | exact HB.out | apply below_alloc | apply pw_below_drewN | apply below_drew1) | exact HB.out))) : w.heap.size ≤ gb217)); have n3_ := Aside0.mk ((by rw [hg]; exact (below_size (by repeat (first | (with_reducible first | exact HB.out | apply below_alloc | apply pw_below_drewN | apply below_drew1) | exact HB.out))) : w.heap.size ≤ gb217)); clear HB; have HB := n0_; have BK217 := n1_; have GW217 := n2_; have GE217 := n3_; clear n0_ n1_ n2_ n3_; clear hb hbox hg) | ((with_reducible refine gate_dst (N := 5) rfl ?_); (try (refine gate_guard (by rfl) ?_; dsimp only)); refine box_event ?hg (N := 5) ?hd (cs := #[.int .u32 a2_0, .int .u32 a2_1]) (t := 57) ?hr ?_; (case hd => rfl); (case hg => rfl); (case hr => first | (go_simp; done) | (go_simp; rfl)); intro gb218 hg w6 hbox hb; have n0_ := Aside0.mk (blk_below (g := gb217) (o := .cells #[.string a0_0, .int .i64 a0_1] 45 (0, 0)) (by (with_reducible repeat (first | refine blk_drewN ?_ _ | refine blk_drew ?_ | refine blk_alloc ?_ _)); exact BK217.out) hb); have n1_ := Aside0.mk (below_step (by repeat (first | (with_reducible first | exact HB.out | apply below_alloc | apply pw_below_drewN | apply below_drew1 | refine below_set ?_ GE217.out) | exact HB.out)) hb); have n2_ := Aside0.mk (hbox); have n3_ := Aside0.mk ((by rw [hg]; exact (below_size (by repeat (first | (with_reducible first | exact HB.out | apply below_alloc | apply pw_below_drewN | apply below_drew1 | refine below_set ?_ GE217.out) | exact HB.out))) : w.heap.size ≤ gb218)); have n4_ := Aside0.mk ((by rw [hg]; exact (below_size (by repeat (first | (with_reducible first | exact HB.out | apply below_alloc | apply pw_below_drewN | apply below_drew1 | refine below_set ?_ GE217.out) | exact HB.out))) : w.heap.size ≤ gb218)); have n5_ := Aside0.mk ((by rw [hg]; exact Nat.ne_of_lt (blk_lt (g := gb217) (o := .cells #[.string a0_0, .int .i64 a0_1] 45 (0, 0)) (by (with_reducible repeat (first | refine blk_drewN ?_ _ | refine blk_drew ?_ | refine blk_alloc ?_ _)); exact BK217.out)) : gb217 ≠ gb218)); have n6_ := Aside0.mk ((by rw [hg]; exact Nat.ne_of_gt (blk_lt (g := gb217) (o := .cells #[.string a0_0, .int .i64 a0_1] 45 (0, 0)) (by (with_reducible repeat (first | refine blk_drewN ?_ _ | refine blk_drew ?_ | refine blk_alloc ?_ _)); exact BK217.out)) : gb218 ≠ gb217)); clear BK217; clear HB; have BK217 := n0_; have HB := n1_; have BK218 := n2_; have GW218 := n3_; have GE218 := n4_; have NB217_218 := n5_; have NB218_217 := n6_; clear n0_ n1_ n2_ n3_ n4_ n5_ n6_; clear hb hbox hg))
  (try simp only [Act.put, List.setIfInBounds_toArray, List.set_cons_zero, List.set_cons_succ])
  go_cut [24] (fun v24 wc => ∃ (kq : Nat) (x24_3 : Bool), v24 = .bool x24_3 ∧ Aside0 (footbridgelaw33_RoyaltyBack.j0 kq a1 x24_3 a0_0 a0_1 a2_0 a2_1 = some r) ∧ Aside0 (kq ≤ k) ∧ Aside0 (wc.heap[gb217]? = some (.cells #[.string a0_0, .int .i64 a0_1] 45 (0, 0))) ∧ Aside0 (wc.heap[gb218]? = some (.cells #[.int .u32 a2_0, .int .u32 a2_1] 57 (0, 0))) ∧ Aside0 (Below w.heap.size w wc))
  case first =>
    have H := HC4.out
    clear HC4
    by_cases c7 : (a0_0.size : Int) > 300
    · rw [if_pos c7] at H
      have c7b0 : decide (300 < (a0_0.size : Int)) = true := decide_eq_true c7
      have c7b1 : decide (300 < a0_0.size) = true := decide_eq_true (by omega)
      clear c7
      (first | rw [c7b0] | (simp only [i64_w, i32_w]; rw [c7b0]) | skip)
      have H' := Aside0.mk H
      clear H
      have hnb8 := NB217_218.out
      have hnc8 := NB218_217.out
      have hcz9_0 : w6.cell? ⟨gb217, 0, none⟩ = some (.string a0_0) := (blk_cell BK217.out 0).trans rfl
      have hcz9_1 : w6.cell? ⟨gb217, 1, none⟩ = some (.int .i64 a0_1) := (blk_cell BK217.out 1).trans rfl
      have hfz9_0 := blk_frozen BK217.out 0
      have hfz9_1 := blk_frozen BK217.out 1
      go_wp2
      go_meet
      case rel => exact ⟨_, (true), (by first | rfl | (simp; done) | (simp [*]; done)), H', ⟨by first | omega | exact Nat.le_refl _⟩, ⟨by (with_reducible repeat (first | refine blk_drewN ?_ _ | refine blk_drew ?_ | refine blk_alloc ?_ _)); exact BK217.out⟩, ⟨by (with_reducible repeat (first | refine blk_drewN ?_ _ | refine blk_drew ?_ | refine blk_alloc ?_ _)); exact BK218.out⟩, ⟨by repeat (first | (with_reducible first | exact HB.out | apply below_alloc | apply pw_below_drewN | apply below_drew1 | refine below_set ?_ GE217.out | refine below_set ?_ GE218.out) | exact HB.out)⟩⟩
    · rw [if_neg c7] at H
      have c7b0 : decide (300 < (a0_0.size : Int)) = false := decide_eq_false c7
      have c7b1 : decide (300 < a0_0.size) = false := decide_eq_false (by omega)
      clear c7
      (first | rw [c7b0] | (simp only [i64_w, i32_w]; rw [c7b0]) | skip)
      have H' := Aside0.mk H
      clear H
      have hnb10 := NB217_218.out
      have hnc10 := NB218_217.out
      have hcz11_0 : w6.cell? ⟨gb217, 0, none⟩ = some (.string a0_0) := (blk_cell BK217.out 0).trans rfl
      have hcz11_1 : w6.cell? ⟨gb217, 1, none⟩ = some (.int .i64 a0_1) := (blk_cell BK217.out 1).trans rfl
      have hfz11_0 := blk_frozen BK217.out 0
      have hfz11_1 := blk_frozen BK217.out 1
      go_wp2
      go_meet
      case rel => exact ⟨_, (decide ((a1.size : Int) > 1000)), (by first | rfl | (simp; done) | (simp [*]; done)), H', ⟨by first | omega | exact Nat.le_refl _⟩, ⟨by (with_reducible repeat (first | refine blk_drewN ?_ _ | refine blk_drew ?_ | refine blk_alloc ?_ _)); exact BK217.out⟩, ⟨by (with_reducible repeat (first | refine blk_drewN ?_ _ | refine blk_drew ?_ | refine blk_alloc ?_ _)); exact BK218.out⟩, ⟨by repeat (first | (with_reducible first | exact HB.out | apply below_alloc | apply pw_below_drewN | apply below_drew1 | refine below_set ?_ GE217.out | refine below_set ?_ GE218.out) | exact HB.out)⟩⟩
  case rest =>
    clear HC4
    try clear c1
    try clear p2
    try clear c7
    try clear c7b0
    try clear c7b1
    try clear c8
    try clear c10
    try clear c11
    try clear hcz11_0
    try clear hcz11_1
    try clear hcz9_0
    try clear hcz9_1
    try clear hfz11_0
    try clear hfz11_1
    try clear hfz9_0
    try clear hfz9_1
    obtain ⟨kq, x24_3, rfl, HA, HJ3, BK217, BK218, HB⟩ := hcut
    cases kq with
    | zero => exact absurd HA.out (by simp [footbridgelaw33_RoyaltyBack.j0])
    | succ kj3 =>
      have H := HA.out
      clear HA
      simp only [footbridgelaw33_RoyaltyBack.j0] at H
      by_cases c12 : x24_3 = true
      · subst c12
        have H1 : ((footbridgelaw33_awake.f kj3).bind fun t219 => (some t219)) = some r := by rw [if_pos rfl] at H; exact H
        clear H
        have H := H1
        clear H1
        replace H := Option.bind_eq_some_iff.mp H
        obtain ⟨t219, A130, H⟩ := H
        replace H : (some t219) = some r := H
        have A13 := Aside0.mk A130
        clear A130
        obtain rfl := Option.some.inj H
        go_wp2_with (first | ((with_reducible refine gate_callee (f := 32) rfl ?_); refine goesL_ (some 25) rfl rfl Try.func32 (by kernel_rfl) rfl #[] rfl (by (try simp only [List.map_toArray, List.map_cons, List.map_nil]); first | done | rfl | (simp only [List.length_drop, List.length_take]; rfl)) ?_; (with_reducible refine (footbridgelaw33_awake.calls kj3  t219 _ A13.out).mono ?_); rintro e w14 ⟨rfl, hb⟩; refine ⟨_, rfl, ?_⟩; have n0_ := Aside0.mk (blk_below (g := gb217) (o := .cells #[.string a0_0, .int .i64 a0_1] 45 (0, 0)) (by (with_reducible repeat (first | refine blk_drewN ?_ _ | refine blk_drew ?_ | refine blk_alloc ?_ _)); exact BK217.out) hb); have n1_ := Aside0.mk (blk_below (g := gb218) (o := .cells #[.int .u32 a2_0, .int .u32 a2_1] 57 (0, 0)) (by (with_reducible repeat (first | refine blk_drewN ?_ _ | refine blk_drew ?_ | refine blk_alloc ?_ _)); exact BK218.out) hb); have n2_ := Aside0.mk (below_step (by repeat (first | (with_reducible first | exact HB.out | apply below_alloc | apply pw_below_drewN | apply below_drew1 | refine below_set ?_ GE217.out | refine below_set ?_ GE218.out) | exact HB.out)) hb); clear BK217; clear BK218; clear HB; have BK217 := n0_; have BK218 := n1_; have HB := n2_; clear n0_ n1_ n2_; (try clear hb); (try clear hb2); (try clear hk); (try clear hi)))
        go_ret
        exact ⟨by first | rfl | (simp [errW_none, errW_some] <;> rfl) | (simp [*, errW_none, errW_some] <;> rfl), by repeat (first | (with_reducible first | exact HB.out | apply below_alloc | apply pw_below_drewN | apply below_drew1 | refine below_set ?_ GE217.out | refine below_set ?_ GE218.out) | exact HB.out)⟩
      · replace c12 := Bool.eq_false_iff.mpr c12
        subst c12
        have H1 : ((royalty_Put.f kj3 a0_0 a0_1 a1).bind fun bt220 => (if bt220.2 = 0 then ((royalty_Read.f kj3 bt220.1).bind fun bt223 => ((royalty_Share.f a0_0 a0_1 (mn (wrap64 (a2_0)) (wrap64 (a2_1)))).bind fun bt228 => ((royalty_Share.f a0_0 a0_1 (mx (wrap64 (a2_0)) (wrap64 (a2_1)))).bind fun bt230 => (if (bt223.1.toList == a0_0.toList && (bt223.2.1 == a0_1)) = true then (if bt223.2.2.1.toList = a1.toList then (if bt223.2.2.2 = 0 then (if bt228.2 = 0 then (if bt230.2 = 0 then (if bt228.1 ≤ bt230.1 then (if bt230.1 ≤ (mx (wrap64 (a2_0)) (wrap64 (a2_1))) then (if bt228.1 ≥ 0 then ((footbridgelaw33_awake.f kj3).bind fun t232 => (some t232)) else (none)) else (none)) else (none)) else (none)) else (none)) else (none)) else (none)) else (none))))) else (if bt220.1.toList = ([] : List UInt8) then ((footbridgelaw33_awake.f kj3).bind fun t222 => (some t222)) else (none)))) = some r := by rw [if_neg (show ¬ (false = true) by decide)] at H; exact H
        clear H
        have H := H1
        clear H1
        replace H := Option.bind_eq_some_iff.mp H
        obtain ⟨⟨t220, t221⟩, A150, H⟩ := H
        replace H : (if t221 = 0 then ((royalty_Read.f kj3 t220).bind fun bt223 => ((royalty_Share.f a0_0 a0_1 (mn (wrap64 (a2_0)) (wrap64 (a2_1)))).bind fun bt228 => ((royalty_Share.f a0_0 a0_1 (mx (wrap64 (a2_0)) (wrap64 (a2_1)))).bind fun bt230 => (if (bt223.1.toList == a0_0.toList && (bt223.2.1 == a0_1)) = true then (if bt223.2.2.1.toList = a1.toList then (if bt223.2.2.2 = 0 then (if bt228.2 = 0 then (if bt230.2 = 0 then (if bt228.1 ≤ bt230.1 then (if bt230.1 ≤ (mx (wrap64 (a2_0)) (wrap64 (a2_1))) then (if bt228.1 ≥ 0 then ((footbridgelaw33_awake.f kj3).bind fun t232 => (some t232)) else (none)) else (none)) else (none)) else (none)) else (none)) else (none)) else (none)) else (none))))) else (if t220.toList = ([] : List UInt8) then ((footbridgelaw33_awake.f kj3).bind fun t222 => (some t222)) else (none))) = some r := H
        have A15 := Aside0.mk A150
        clear A150
        by_cases c16 : t221 = 0
        · rw [if_pos c16] at H
          have c16b0 : (t221 == 0) = true := beq_iff_eq.mpr c16
          have c16b1 : (t221 != 0) = false := bne_eq_false_iff_eq.mpr c16
          clear c16
          replace H := Option.bind_eq_some_iff.mp H
          obtain ⟨⟨t223, t224, t225, t226⟩, A170, H⟩ := H
          replace H : ((royalty_Share.f a0_0 a0_1 (mn (wrap64 (a2_0)) (wrap64 (a2_1)))).bind fun bt228 => ((royalty_Share.f a0_0 a0_1 (mx (wrap64 (a2_0)) (wrap64 (a2_1)))).bind fun bt230 => (if (t223.toList == a0_0.toList && (t224 == a0_1)) = true then (if t225.toList = a1.toList then (if t226 = 0 then (if bt228.2 = 0 then (if bt230.2 = 0 then (if bt228.1 ≤ bt230.1 then (if bt230.1 ≤ (mx (wrap64 (a2_0)) (wrap64 (a2_1))) then (if bt228.1 ≥ 0 then ((footbridgelaw33_awake.f kj3).bind fun t232 => (some t232)) else (none)) else (none)) else (none)) else (none)) else (none)) else (none)) else (none)) else (none)))) = some r := H
          have A17 := Aside0.mk A170
          clear A170
          obtain ⟨ji18, hji18⟩ : ∃ j_ : Int, (mn (wrap64 (a2_0)) (wrap64 (a2_1))) = j_ := ⟨_, rfl⟩
          replace H : ((royalty_Share.f a0_0 a0_1 (ji18)).bind fun bt228 => ((royalty_Share.f a0_0 a0_1 (mx (wrap64 (a2_0)) (wrap64 (a2_1)))).bind fun bt230 => (if (t223.toList == a0_0.toList && (t224 == a0_1)) = true then (if t225.toList = a1.toList then (if t226 = 0 then (if bt228.2 = 0 then (if bt230.2 = 0 then (if bt228.1 ≤ bt230.1 then (if bt230.1 ≤ (mx (wrap64 (a2_0)) (wrap64 (a2_1))) then (if bt228.1 ≥ 0 then ((footbridgelaw33_awake.f kj3).bind fun t232 => (some t232)) else (none)) else (none)) else (none)) else (none)) else (none)) else (none)) else (none)) else (none)))) = some r := by first | (rw [hji18] at H; exact H) | (simp only [hji18] at H ⊢; exact H)
          (try rw [hji18] at A15)
          (try rw [hji18] at A17)
          have hji18_ : (if (wrap64 (a2_1)) < (wrap64 (a2_0)) then (wrap64 (a2_1)) else (wrap64 (a2_0))) = ji18 := hji18
          replace H := Option.bind_eq_some_iff.mp H
          obtain ⟨⟨t228, t229⟩, A190, H⟩ := H
          replace H : ((royalty_Share.f a0_0 a0_1 (mx (wrap64 (a2_0)) (wrap64 (a2_1)))).bind fun bt230 => (if (t223.toList == a0_0.toList && (t224 == a0_1)) = true then (if t225.toList = a1.toList then (if t226 = 0 then (if t229 = 0 then (if bt230.2 = 0 then (if t228 ≤ bt230.1 then (if bt230.1 ≤ (mx (wrap64 (a2_0)) (wrap64 (a2_1))) then (if t228 ≥ 0 then ((footbridgelaw33_awake.f kj3).bind fun t232 => (some t232)) else (none)) else (none)) else (none)) else (none)) else (none)) else (none)) else (none)) else (none))) = some r := H
          have A19 := Aside0.mk A190
          clear A190
          obtain ⟨ji20, hji20⟩ : ∃ j_ : Int, (mx (wrap64 (a2_0)) (wrap64 (a2_1))) = j_ := ⟨_, rfl⟩
          replace H : ((royalty_Share.f a0_0 a0_1 (ji20)).bind fun bt230 => (if (t223.toList == a0_0.toList && (t224 == a0_1)) = true then (if t225.toList = a1.toList then (if t226 = 0 then (if t229 = 0 then (if bt230.2 = 0 then (if t228 ≤ bt230.1 then (if bt230.1 ≤ (ji20) then (if t228 ≥ 0 then ((footbridgelaw33_awake.f kj3).bind fun t232 => (some t232)) else (none)) else (none)) else (none)) else (none)) else (none)) else (none)) else (none)) else (none))) = some r := by first | (rw [hji20] at H; exact H) | (simp only [hji20] at H ⊢; exact H)
          (try rw [hji20] at A15)
          (try rw [hji20] at A17)
          (try rw [hji20] at A19)
          have hji20_ : (if (wrap64 (a2_0)) < (wrap64 (a2_1)) then (wrap64 (a2_1)) else (wrap64 (a2_0))) = ji20 := hji20
          replace H := Option.bind_eq_some_iff.mp H
          obtain ⟨⟨t230, t231⟩, A210, H⟩ := H
          replace H : (if (t223.toList == a0_0.toList && (t224 == a0_1)) = true then (if t225.toList = a1.toList then (if t226 = 0 then (if t229 = 0 then (if t231 = 0 then (if t228 ≤ t230 then (if t230 ≤ (ji20) then (if t228 ≥ 0 then ((footbridgelaw33_awake.f kj3).bind fun t232 => (some t232)) else (none)) else (none)) else (none)) else (none)) else (none)) else (none)) else (none)) else (none)) = some r := H
          have A21 := Aside0.mk A210
          clear A210
          by_cases c22 : (t223.toList == a0_0.toList && (t224 == a0_1)) = true
          · rw [if_pos c22] at H
            have c22b0 : (t223.toList == a0_0.toList && (t224 == a0_1)) = true := c22
            (try (have c22b1 : decide (t223.toList = a0_0.toList && (t224 == a0_1)) = true := by simpa using c22))
            (try (have c22b2 : (t223.toList == a0_0.toList && (t224 == a0_1)) = true := by simpa using c22))
            clear c22
            by_cases c23 : t225.toList = a1.toList
            · rw [if_pos c23] at H
              have c23b0 : (t225.toList == a1.toList) = true := beq_iff_eq.mpr c23
              have c23b1 : (t225.toList != a1.toList) = false := bne_eq_false_iff_eq.mpr c23
              clear c23
              by_cases c24 : t226 = 0
              · rw [if_pos c24] at H
                have c24b0 : (t226 == 0) = true := beq_iff_eq.mpr c24
                have c24b1 : (t226 != 0) = false := bne_eq_false_iff_eq.mpr c24
                clear c24
                by_cases c25 : t229 = 0
                · rw [if_pos c25] at H
                  have c25b0 : (t229 == 0) = true := beq_iff_eq.mpr c25
                  have c25b1 : (t229 != 0) = false := bne_eq_false_iff_eq.mpr c25
                  clear c25
                  by_cases c26 : t231 = 0
                  · rw [if_pos c26] at H
                    have c26b0 : (t231 == 0) = true := beq_iff_eq.mpr c26
                    have c26b1 : (t231 != 0) = false := bne_eq_false_iff_eq.mpr c26
                    clear c26
                    by_cases c27 : t228 ≤ t230
                    · rw [if_pos c27] at H
                      have c27b0 : decide (t228 ≤ t230) = true := decide_eq_true c27
                      clear c27
                      by_cases c28 : t230 ≤ (ji20)
                      · rw [if_pos c28] at H
                        have c28b0 : decide (t230 ≤ (ji20)) = true := decide_eq_true c28
                        clear c28
                        by_cases c29 : t228 ≥ 0
                        · rw [if_pos c29] at H
                          have c29b0 : decide (0 ≤ t228) = true := decide_eq_true c29
                          clear c29
                          replace H := Option.bind_eq_some_iff.mp H
                          obtain ⟨t232, A300, H⟩ := H
                          replace H : (some t232) = some r := H
                          have A30 := Aside0.mk A300
                          clear A300
                          obtain rfl := Option.some.inj H
                          have hnb31 := NB217_218.out
                          have hnc31 := NB218_217.out
                          have hcz32_0 : wc.cell? ⟨gb217, 0, none⟩ = some (.string a0_0) := (blk_cell BK217.out 0).trans rfl
                          have hcz32_1 : wc.cell? ⟨gb217, 1, none⟩ = some (.int .i64 a0_1) := (blk_cell BK217.out 1).trans rfl
                          have hfz32_0 := blk_frozen BK217.out 0
                          have hfz32_1 := blk_frozen BK217.out 1
                          go_wp2_with (first | ((with_reducible refine gate_callee (f := 33) rfl ?_); refine goesL_ (some 29) rfl rfl Try.func33 (by kernel_rfl) rfl #[.agg #[.string a0_0, .int .i64 a0_1], .string a1] rfl (by (try simp only [List.map_toArray, List.map_cons, List.map_nil]); first | done | rfl | (simp only [List.length_drop, List.length_take]; rfl)) ?_; (with_reducible refine (royalty_Put.calls kj3 a0_0 a0_1 a1 t220 t221 _ A15.out).mono ?_); rintro e w33 ⟨rfl, hb⟩; refine ⟨_, rfl, ?_⟩; have n0_ := Aside0.mk (blk_below (g := gb217) (o := .cells #[.string a0_0, .int .i64 a0_1] 45 (0, 0)) (by (with_reducible repeat (first | refine blk_drewN ?_ _ | refine blk_drew ?_ | refine blk_alloc ?_ _)); exact BK217.out) hb); have n1_ := Aside0.mk (blk_below (g := gb218) (o := .cells #[.int .u32 a2_0, .int .u32 a2_1] 57 (0, 0)) (by (with_reducible repeat (first | refine blk_drewN ?_ _ | refine blk_drew ?_ | refine blk_alloc ?_ _)); exact BK218.out) hb); have n2_ := Aside0.mk (below_step (by repeat (first | (with_reducible first | exact HB.out | apply below_alloc | apply pw_below_drewN | apply below_drew1 | refine below_set ?_ GE217.out | refine below_set ?_ GE218.out) | exact HB.out)) hb); clear BK217; clear BK218; clear HB; have BK217 := n0_; have BK218 := n1_; have HB := n2_; clear n0_ n1_ n2_; (try clear hb); (try clear hb2); (try clear hk); (try clear hi)) | ((with_reducible refine gate_callee (f := 35) rfl ?_); refine goesL_ (some 41) rfl rfl Try.func35 (by kernel_rfl) rfl #[.string t220] rfl (by (try simp only [List.map_toArray, List.map_cons, List.map_nil]); first | done | rfl | (simp only [List.length_drop, List.length_take]; rfl)) ?_; (with_reducible refine (royalty_Read.calls kj3 t220 t223 t224 t225 t226 _ A17.out).mono ?_); rintro e w34 ⟨rfl, hb⟩; refine ⟨_, rfl, ?_⟩; have n0_ := Aside0.mk (blk_below (g := gb217) (o := .cells #[.string a0_0, .int .i64 a0_1] 45 (0, 0)) (by (with_reducible repeat (first | refine blk_drewN ?_ _ | refine blk_drew ?_ | refine blk_alloc ?_ _)); exact BK217.out) hb); have n1_ := Aside0.mk (blk_below (g := gb218) (o := .cells #[.int .u32 a2_0, .int .u32 a2_1] 57 (0, 0)) (by (with_reducible repeat (first | refine blk_drewN ?_ _ | refine blk_drew ?_ | refine blk_alloc ?_ _)); exact BK218.out) hb); have n2_ := Aside0.mk (below_step (by repeat (first | (with_reducible first | exact HB.out | apply below_alloc | apply pw_below_drewN | apply below_drew1 | refine below_set ?_ GE217.out | refine below_set ?_ GE218.out) | exact HB.out)) hb); clear BK217; clear BK218; clear HB; have BK217 := n0_; have BK218 := n1_; have HB := n2_; clear n0_ n1_ n2_; (try clear hb); (try clear hb2); (try clear hk); (try clear hi)) | ((with_reducible refine gate_dst (N := 9) rfl ?_); (try (refine gate_guard (by rfl) ?_; dsimp only)); refine box_event ?hg (N := 9) ?hd (cs := #[.string (⟨#[]⟩ : ByteArray), .int .i64 0]) (t := 45) ?hr ?_; (case hd => rfl); (case hg => rfl); (case hr => first | (go_simp; done) | (go_simp; rfl)); intro gb227 hg w35 hbox hb; have n0_ := Aside0.mk (blk_below (g := gb217) (o := .cells #[.string a0_0, .int .i64 a0_1] 45 (0, 0)) (by (with_reducible repeat (first | refine blk_drewN ?_ _ | refine blk_drew ?_ | refine blk_alloc ?_ _)); exact BK217.out) hb); have n1_ := Aside0.mk (blk_below (g := gb218) (o := .cells #[.int .u32 a2_0, .int .u32 a2_1] 57 (0, 0)) (by (with_reducible repeat (first | refine blk_drewN ?_ _ | refine blk_drew ?_ | refine blk_alloc ?_ _)); exact BK218.out) hb); have n2_ := Aside0.mk (below_step (by repeat (first | (with_reducible first | exact HB.out | apply below_alloc | apply pw_below_drewN | apply below_drew1 | refine below_set ?_ GE217.out | refine below_set ?_ GE218.out) | exact HB.out)) hb); have n3_ := Aside0.mk (hbox); have n4_ := Aside0.mk ((by rw [hg]; exact (below_size (by repeat (first | (with_reducible first | exact HB.out | apply below_alloc | apply pw_below_drewN | apply below_drew1 | refine below_set ?_ GE217.out | refine below_set ?_ GE218.out) | exact HB.out))) : w.heap.size ≤ gb227)); have n5_ := Aside0.mk ((by rw [hg]; exact (below_size (by repeat (first | (with_reducible first | exact HB.out | apply below_alloc | apply pw_below_drewN | apply below_drew1 | refine below_set ?_ GE217.out | refine below_set ?_ GE218.out) | exact HB.out))) : w.heap.size ≤ gb227)); have n6_ := Aside0.mk ((by rw [hg]; exact Nat.ne_of_lt (blk_lt (g := gb217) (o := .cells #[.string a0_0, .int .i64 a0_1] 45 (0, 0)) (by (with_reducible repeat (first | refine blk_drewN ?_ _ | refine blk_drew ?_ | refine blk_alloc ?_ _)); exact BK217.out)) : gb217 ≠ gb227)); have n7_ := Aside0.mk ((by rw [hg]; exact Nat.ne_of_gt (blk_lt (g := gb217) (o := .cells #[.string a0_0, .int .i64 a0_1] 45 (0, 0)) (by (with_reducible repeat (first | refine blk_drewN ?_ _ | refine blk_drew ?_ | refine blk_alloc ?_ _)); exact BK217.out)) : gb227 ≠ gb217)); have n8_ := Aside0.mk ((by rw [hg]; exact Nat.ne_of_lt (blk_lt (g := gb218) (o := .cells #[.int .u32 a2_0, .int .u32 a2_1] 57 (0, 0)) (by (with_reducible repeat (first | refine blk_drewN ?_ _ | refine blk_drew ?_ | refine blk_alloc ?_ _)); exact BK218.out)) : gb218 ≠ gb227)); have n9_ := Aside0.mk ((by rw [hg]; exact Nat.ne_of_gt (blk_lt (g := gb218) (o := .cells #[.int .u32 a2_0, .int .u32 a2_1] 57 (0, 0)) (by (with_reducible repeat (first | refine blk_drewN ?_ _ | refine blk_drew ?_ | refine blk_alloc ?_ _)); exact BK218.out)) : gb227 ≠ gb218)); clear BK217; clear BK218; clear HB; have BK217 := n0_; have BK218 := n1_; have HB := n2_; have BK227 := n3_; have GW227 := n4_; have GE227 := n5_; have NB217_227 := n6_; have NB227_217 := n7_; have NB218_227 := n8_; have NB227_218 := n9_; clear n0_ n1_ n2_ n3_ n4_ n5_ n6_ n7_ n8_ n9_; clear hb hbox hg; have hnb36 := NB227_217.out; have hnc36 := NB217_227.out; have hnb37 := NB227_218.out; have hnc37 := NB218_227.out; have hcz38_0 : w35.cell? ⟨gb227, 0, none⟩ = some (.string (⟨#[]⟩ : ByteArray)) := (blk_cell BK227.out 0).trans rfl; have hcz38_1 : w35.cell? ⟨gb227, 1, none⟩ = some (.int .i64 0) := (blk_cell BK227.out 1).trans rfl; have hfz38_0 := blk_frozen BK227.out 0; have hfz38_1 := blk_frozen BK227.out 1; have hcz39_0 : w35.cell? ⟨gb217, 0, none⟩ = some (.string a0_0) := (blk_cell BK217.out 0).trans rfl; have hcz39_1 : w35.cell? ⟨gb217, 1, none⟩ = some (.int .i64 a0_1) := (blk_cell BK217.out 1).trans rfl; have hfz39_0 := blk_frozen BK217.out 0; have hfz39_1 := blk_frozen BK217.out 1; have hcz40_0 : w35.cell? ⟨gb218, 0, none⟩ = some (.int .u32 a2_0) := (blk_cell BK218.out 0).trans rfl; have hcz40_1 : w35.cell? ⟨gb218, 1, none⟩ = some (.int .u32 a2_1) := (blk_cell BK218.out 1).trans rfl; have hfz40_0 := blk_frozen BK218.out 0; have hfz40_1 := blk_frozen BK218.out 1) | ((with_reducible refine gate_callee (f := 37) rfl ?_); refine goesL_ (some 54) rfl rfl Try.func37 (by kernel_rfl) rfl #[.agg #[.string a0_0, .int .i64 a0_1], .int .i64 ji18] rfl (by (try simp only [List.map_toArray, List.map_cons, List.map_nil]); first | done | (simp only [hji18]; rfl) | rfl | (simp only [List.length_drop, List.length_take]; rfl)) ?_; (with_reducible refine (royalty_Share.calls a0_0 a0_1 ji18 t228 t229 _ A19.out).mono ?_); rintro e w41 ⟨rfl, hb⟩; refine ⟨_, rfl, ?_⟩; have n0_ := Aside0.mk (blk_below (g := gb217) (o := .cells #[.string a0_0, .int .i64 a0_1] 45 (0, 0)) (by (with_reducible repeat (first | refine blk_drewN ?_ _ | refine blk_drew ?_ | refine blk_alloc ?_ _)); refine blk_far ?_ NB217_227.out _; (with_reducible repeat (first | refine blk_drewN ?_ _ | refine blk_drew ?_ | refine blk_alloc ?_ _)); refine blk_far ?_ NB217_227.out _; (with_reducible repeat (first | refine blk_drewN ?_ _ | refine blk_drew ?_ | refine blk_alloc ?_ _)); exact BK217.out) hb); have n1_ := Aside0.mk (blk_below (g := gb218) (o := .cells #[.int .u32 a2_0, .int .u32 a2_1] 57 (0, 0)) (by (with_reducible repeat (first | refine blk_drewN ?_ _ | refine blk_drew ?_ | refine blk_alloc ?_ _)); refine blk_far ?_ NB218_227.out _; (with_reducible repeat (first | refine blk_drewN ?_ _ | refine blk_drew ?_ | refine blk_alloc ?_ _)); refine blk_far ?_ NB218_227.out _; (with_reducible repeat (first | refine blk_drewN ?_ _ | refine blk_drew ?_ | refine blk_alloc ?_ _)); exact BK218.out) hb); have n2_ := Aside0.mk (blk_below (g := gb227) (o := .cells #[.string t223, .int .i64 t224] 45 (0, 0)) (by (with_reducible repeat (first | refine blk_drewN ?_ _ | refine blk_drew ?_ | refine blk_alloc ?_ _)); refine blk_put (cs := #[.string t223, .int .i64 0]) ?_ 1 _ rfl; (with_reducible repeat (first | refine blk_drewN ?_ _ | refine blk_drew ?_ | refine blk_alloc ?_ _)); refine blk_put (cs := #[.string (⟨#[]⟩ : ByteArray), .int .i64 0]) ?_ 0 _ rfl; (with_reducible repeat (first | refine blk_drewN ?_ _ | refine blk_drew ?_ | refine blk_alloc ?_ _)); exact BK227.out) hb); have n3_ := Aside0.mk (below_step (by repeat (first | (with_reducible first | exact HB.out | apply below_alloc | apply pw_below_drewN | apply below_drew1 | refine below_set ?_ GE217.out | refine below_set ?_ GE218.out | refine below_set ?_ GE227.out) | exact HB.out)) hb); clear BK217; clear BK218; clear BK227; clear HB; have BK217 := n0_; have BK218 := n1_; have BK227 := n2_; have HB := n3_; clear n0_ n1_ n2_ n3_; (try clear hb); (try clear hb2); (try clear hk); (try clear hi); have hcz42_0 : w41.cell? ⟨gb217, 0, none⟩ = some (.string a0_0) := (blk_cell BK217.out 0).trans rfl; have hcz42_1 : w41.cell? ⟨gb217, 1, none⟩ = some (.int .i64 a0_1) := (blk_cell BK217.out 1).trans rfl; have hfz42_0 := blk_frozen BK217.out 0; have hfz42_1 := blk_frozen BK217.out 1; have hcz43_0 : w41.cell? ⟨gb218, 0, none⟩ = some (.int .u32 a2_0) := (blk_cell BK218.out 0).trans rfl; have hcz43_1 : w41.cell? ⟨gb218, 1, none⟩ = some (.int .u32 a2_1) := (blk_cell BK218.out 1).trans rfl; have hfz43_0 := blk_frozen BK218.out 0; have hfz43_1 := blk_frozen BK218.out 1) | ((with_reducible refine gate_callee (f := 37) rfl ?_); refine goesL_ (some 66) rfl rfl Try.func37 (by kernel_rfl) rfl #[.agg #[.string a0_0, .int .i64 a0_1], .int .i64 ji20] rfl (by (try simp only [List.map_toArray, List.map_cons, List.map_nil]); first | done | (simp only [hji20]; rfl) | rfl | (simp only [List.length_drop, List.length_take]; rfl)) ?_; (with_reducible refine (royalty_Share.calls a0_0 a0_1 ji20 t230 t231 _ A21.out).mono ?_); rintro e w44 ⟨rfl, hb⟩; refine ⟨_, rfl, ?_⟩; have n0_ := Aside0.mk (blk_below (g := gb217) (o := .cells #[.string a0_0, .int .i64 a0_1] 45 (0, 0)) (by (with_reducible repeat (first | refine blk_drewN ?_ _ | refine blk_drew ?_ | refine blk_alloc ?_ _)); exact BK217.out) hb); have n1_ := Aside0.mk (blk_below (g := gb218) (o := .cells #[.int .u32 a2_0, .int .u32 a2_1] 57 (0, 0)) (by (with_reducible repeat (first | refine blk_drewN ?_ _ | refine blk_drew ?_ | refine blk_alloc ?_ _)); exact BK218.out) hb); have n2_ := Aside0.mk (blk_below (g := gb227) (o := .cells #[.string t223, .int .i64 t224] 45 (0, 0)) (by (with_reducible repeat (first | refine blk_drewN ?_ _ | refine blk_drew ?_ | refine blk_alloc ?_ _)); exact BK227.out) hb); have n3_ := Aside0.mk (below_step (by repeat (first | (with_reducible first | exact HB.out | apply below_alloc | apply pw_below_drewN | apply below_drew1 | refine below_set ?_ GE217.out | refine below_set ?_ GE218.out | refine below_set ?_ GE227.out) | exact HB.out)) hb); clear BK217; clear BK218; clear BK227; clear HB; have BK217 := n0_; have BK218 := n1_; have BK227 := n2_; have HB := n3_; clear n0_ n1_ n2_ n3_; (try clear hb); (try clear hb2); (try clear hk); (try clear hi); have hcz45_0 : w44.cell? ⟨gb227, 0, none⟩ = some (.string t223) := (blk_cell BK227.out 0).trans rfl; have hcz45_1 : w44.cell? ⟨gb227, 1, none⟩ = some (.int .i64 t224) := (blk_cell BK227.out 1).trans rfl; have hfz45_0 := blk_frozen BK227.out 0; have hfz45_1 := blk_frozen BK227.out 1; have hcz46_0 : w44.cell? ⟨gb217, 0, none⟩ = some (.string a0_0) := (blk_cell BK217.out 0).trans rfl; have hcz46_1 : w44.cell? ⟨gb217, 1, none⟩ = some (.int .i64 a0_1) := (blk_cell BK217.out 1).trans rfl; have hfz46_0 := blk_frozen BK217.out 0; have hfz46_1 := blk_frozen BK217.out 1; have hcz47_0 : w44.cell? ⟨gb218, 0, none⟩ = some (.int .u32 a2_0) := (blk_cell BK218.out 0).trans rfl; have hcz47_1 : w44.cell? ⟨gb218, 1, none⟩ = some (.int .u32 a2_1) := (blk_cell BK218.out 1).trans rfl; have hfz47_0 := blk_frozen BK218.out 0; have hfz47_1 := blk_frozen BK218.out 1) | (go_at_call 32; (with_reducible refine (footbridgelaw33_awake.calls kj3  t232 _ A30.out).mono ?_); rintro e w48 ⟨rfl, hb⟩; have n0_ := Aside0.mk (blk_below (g := gb217) (o := .cells #[.string a0_0, .int .i64 a0_1] 45 (0, 0)) (by (with_reducible repeat (first | refine blk_drewN ?_ _ | refine blk_drew ?_ | refine blk_alloc ?_ _)); exact BK217.out) hb); have n1_ := Aside0.mk (blk_below (g := gb218) (o := .cells #[.int .u32 a2_0, .int .u32 a2_1] 57 (0, 0)) (by (with_reducible repeat (first | refine blk_drewN ?_ _ | refine blk_drew ?_ | refine blk_alloc ?_ _)); exact BK218.out) hb); have n2_ := Aside0.mk (blk_below (g := gb227) (o := .cells #[.string t223, .int .i64 t224] 45 (0, 0)) (by (with_reducible repeat (first | refine blk_drewN ?_ _ | refine blk_drew ?_ | refine blk_alloc ?_ _)); exact BK227.out) hb); have n3_ := Aside0.mk (below_step (by repeat (first | (with_reducible first | exact HB.out | apply below_alloc | apply pw_below_drewN | apply below_drew1 | refine below_set ?_ GE217.out | refine below_set ?_ GE218.out | refine below_set ?_ GE227.out) | exact HB.out)) hb); clear BK217; clear BK218; clear BK227; clear HB; have BK217 := n0_; have BK218 := n1_; have BK227 := n2_; have HB := n3_; clear n0_ n1_ n2_ n3_; (try clear hb); (try clear hb2); (try clear hk); (try clear hi)))
                          go_ret
                          exact ⟨by first | rfl | (simp [errW_none, errW_some] <;> rfl) | (simp only [← hji18, ← hji20]; first | rfl | (simp [errW_none, errW_some] <;> rfl)) | (simp [*, errW_none, errW_some] <;> rfl), by repeat (first | (with_reducible first | exact HB.out | apply below_alloc | apply pw_below_drewN | apply below_drew1 | refine below_set ?_ GE217.out | refine below_set ?_ GE218.out | refine below_set ?_ GE227.out) | exact HB.out)⟩
                        · rw [if_neg c29] at H
                          exact absurd H (by simp)
                      · rw [if_neg c28] at H
                        exact absurd H (by simp)
                    · rw [if_neg c27] at H
                      exact absurd H (by simp)
                  · rw [if_neg c26] at H
                    exact absurd H (by simp)
                · rw [if_neg c25] at H
                  exact absurd H (by simp)
              · rw [if_neg c24] at H
                exact absurd H (by simp)
            · rw [if_neg c23] at H
              exact absurd H (by simp)
          · rw [if_neg c22] at H
            exact absurd H (by simp)
        · rw [if_neg c16] at H
          have c16b0 : (t221 == 0) = false := beq_eq_false_iff_ne.mpr c16
          have c16b1 : (t221 != 0) = true := bne_iff_ne.mpr c16
          by_cases c49 : t220.toList = ([] : List UInt8)
          · rw [if_pos c49] at H
            have c49b0 : (t220.toList == ([] : List UInt8)) = true := beq_iff_eq.mpr c49
            have c49b1 : (t220.toList != ([] : List UInt8)) = false := bne_eq_false_iff_eq.mpr c49
            clear c49
            replace H := Option.bind_eq_some_iff.mp H
            obtain ⟨t222, A500, H⟩ := H
            replace H : (some t222) = some r := H
            have A50 := Aside0.mk A500
            clear A500
            obtain rfl := Option.some.inj H
            have hnb51 := NB217_218.out
            have hnc51 := NB218_217.out
            have hcz52_0 : wc.cell? ⟨gb217, 0, none⟩ = some (.string a0_0) := (blk_cell BK217.out 0).trans rfl
            have hcz52_1 : wc.cell? ⟨gb217, 1, none⟩ = some (.int .i64 a0_1) := (blk_cell BK217.out 1).trans rfl
            have hfz52_0 := blk_frozen BK217.out 0
            have hfz52_1 := blk_frozen BK217.out 1
            go_wp2_with (first | ((with_reducible refine gate_callee (f := 33) rfl ?_); refine goesL_ (some 29) rfl rfl Try.func33 (by kernel_rfl) rfl #[.agg #[.string a0_0, .int .i64 a0_1], .string a1] rfl (by (try simp only [List.map_toArray, List.map_cons, List.map_nil]); first | done | rfl | (simp only [List.length_drop, List.length_take]; rfl)) ?_; (with_reducible refine (royalty_Put.calls kj3 a0_0 a0_1 a1 t220 t221 _ A15.out).mono ?_); rintro e w53 ⟨rfl, hb⟩; refine ⟨_, rfl, ?_⟩; have n0_ := Aside0.mk (blk_below (g := gb217) (o := .cells #[.string a0_0, .int .i64 a0_1] 45 (0, 0)) (by (with_reducible repeat (first | refine blk_drewN ?_ _ | refine blk_drew ?_ | refine blk_alloc ?_ _)); exact BK217.out) hb); have n1_ := Aside0.mk (blk_below (g := gb218) (o := .cells #[.int .u32 a2_0, .int .u32 a2_1] 57 (0, 0)) (by (with_reducible repeat (first | refine blk_drewN ?_ _ | refine blk_drew ?_ | refine blk_alloc ?_ _)); exact BK218.out) hb); have n2_ := Aside0.mk (below_step (by repeat (first | (with_reducible first | exact HB.out | apply below_alloc | apply pw_below_drewN | apply below_drew1 | refine below_set ?_ GE217.out | refine below_set ?_ GE218.out) | exact HB.out)) hb); clear BK217; clear BK218; clear HB; have BK217 := n0_; have BK218 := n1_; have HB := n2_; clear n0_ n1_ n2_; (try clear hb); (try clear hb2); (try clear hk); (try clear hi)) | (go_at_call 32; (with_reducible refine (footbridgelaw33_awake.calls kj3  t222 _ A50.out).mono ?_); rintro e w54 ⟨rfl, hb⟩; have n0_ := Aside0.mk (blk_below (g := gb217) (o := .cells #[.string a0_0, .int .i64 a0_1] 45 (0, 0)) (by (with_reducible repeat (first | refine blk_drewN ?_ _ | refine blk_drew ?_ | refine blk_alloc ?_ _)); exact BK217.out) hb); have n1_ := Aside0.mk (blk_below (g := gb218) (o := .cells #[.int .u32 a2_0, .int .u32 a2_1] 57 (0, 0)) (by (with_reducible repeat (first | refine blk_drewN ?_ _ | refine blk_drew ?_ | refine blk_alloc ?_ _)); exact BK218.out) hb); have n2_ := Aside0.mk (below_step (by repeat (first | (with_reducible first | exact HB.out | apply below_alloc | apply pw_below_drewN | apply below_drew1 | refine below_set ?_ GE217.out | refine below_set ?_ GE218.out) | exact HB.out)) hb); clear BK217; clear BK218; clear HB; have BK217 := n0_; have BK218 := n1_; have HB := n2_; clear n0_ n1_ n2_; (try clear hb); (try clear hb2); (try clear hk); (try clear hi)))
            go_ret
            exact ⟨by first | rfl | (simp [errW_none, errW_some] <;> rfl) | (simp [*, errW_none, errW_some] <;> rfl), by repeat (first | (with_reducible first | exact HB.out | apply below_alloc | apply pw_below_drewN | apply below_drew1 | refine below_set ?_ GE217.out | refine below_set ?_ GE218.out) | exact HB.out)⟩
          · rw [if_neg c49] at H
            exact absurd H (by simp)

end Go.Proofs.Ytfjneffmgmcdaaa.PRoy

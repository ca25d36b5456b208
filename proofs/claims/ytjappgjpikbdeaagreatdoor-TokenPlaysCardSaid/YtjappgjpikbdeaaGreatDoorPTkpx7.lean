/- A part of the walk of TokenPlays. No condition. -/
import Derived.Test.YtjappgjpikbdeaaGreatDoorPTkpx0
import Derived.Test.YtjappgjpikbdeaaGreatDoorPTkpx5
import Derived.Test.YtjappgjpikbdeaaGreatDoorPTkpx6
namespace Go.Proofs.YtjappgjpikbdeaaGreatDoor.PTkp
set_option maxRecDepth 100000
set_option maxHeartbeats 8000000
open Go.RowKit Go.Proofs.YtjappgjpikbdeaaGreatDoorW.PrintWords Go.Proofs.YtjappgjpikbdeaaGreatDoorW.PrintLast Go.Proofs.YtjappgjpikbdeaaGreatDoorW.PrintMore
attribute [local go_sem] max2_int min2_int max_two min_two max_three min_three max_four min_four   -- for this text's walks alone
set_option linter.unusedVariables false
set_option linter.unusedSimpArgs false
mutual
def footbridgeref01_R_Num.j0 : Nat → Int → Bool → ByteArray → Int → Option (ByteArray × Int × Int)
 | 0, _, _, _, _ => none
 | k + 1, x4, x39, x279000, x279001 => if x39 = true then (some (x279000, 6, 0)) else (if (wrap64 ((x279000.size : Int) - 1)) < x4 then (some (x279000, 5, 0)) else (footbridgeref01_R_Num.l0 k x4 0 1 x279000 x279001))
def footbridgeref01_R_Num.l0 : Nat → Int → Int → Int → ByteArray → Int → Option (ByteArray × Int × Int)
 | 0, _, _, _, _, _ => none
 | k + 1, x4, x5, x6, x279000, x279001 => if x6 ≤ x4 then (if 0 ≤ x6 then (if x6 < (x279000.size : Int) then (footbridgeref01_R_Num.l0 k x4 (wrap64 ((wrap64 (x5 * 256)) + (wrap64 (bt x279000 x6)))) (wrap64 (x6 + 1)) x279000 x279001) else (none)) else (none)) else (if x5 > 9007199254740992 then (some (x279000, 3, 0)) else (if 0 ≤ (wrap64 (1 + x4)) then (if (wrap64 (1 + x4)) ≤ (x279000.size : Int) then (some (x279000.extract ((wrap64 (1 + x4)) : Int).toNat x279000.size, 0, x5)) else (none)) else (none)))
end
def footbridgeref01_R_Num.f (k : Nat) (a0_0 : ByteArray) (a0_1 : Int) : Option (ByteArray × Int × Int) := if a0_1 = 0 then (if a0_0.toList = ([] : List UInt8) then (some (a0_0, 5, 0)) else (if 0 < (a0_0.size : Int) then (if (wrap64 (bt a0_0 0)) > 7 then (some (a0_0, 6, 0)) else (if (wrap64 (bt a0_0 0)) > 0 then (if (a0_0.size : Int) > 1 then (if 1 < (a0_0.size : Int) then (footbridgeref01_R_Num.j0 k (wrap64 (bt a0_0 0)) ((bt a0_0 1) == 0) a0_0 a0_1) else (none)) else (footbridgeref01_R_Num.j0 k (wrap64 (bt a0_0 0)) false a0_0 a0_1)) else (footbridgeref01_R_Num.j0 k (wrap64 (bt a0_0 0)) false a0_0 a0_1))) else (none))) else (some (a0_0, a0_1, 0))
theorem footbridgeref01_R_Num.mono_l : ∀ k, (∀ y0 y1 y2 y3, LeO (footbridgeref01_R_Num.j0 k y0 y1 y2 y3) (footbridgeref01_R_Num.j0 (k + 1) y0 y1 y2 y3)) ∧ (∀ y0 y1 y2 y3 y4, LeO (footbridgeref01_R_Num.l0 k y0 y1 y2 y3 y4) (footbridgeref01_R_Num.l0 (k + 1) y0 y1 y2 y3 y4))
 | 0 => ⟨fun _ _ _ _ r h => by simp [footbridgeref01_R_Num.j0] at h, fun _ _ _ _ _ r h => by simp [footbridgeref01_R_Num.l0] at h⟩
 | k + 1 => by
  obtain ⟨ih0, ih1⟩ := footbridgeref01_R_Num.mono_l k
  refine ⟨?_, ?_⟩
  ·intro y0 y1 y2 y3
   unfold footbridgeref01_R_Num.j0
   repeat' first
   | (with_reducible exact ih0 _ _ _ _)
   | (with_reducible exact ih1 _ _ _ _ _)
   | (with_reducible exact LeO.refl _)
   | (with_reducible exact LeO.none _)
   | (with_reducible refine LeO.ite ?_ ?_)
   | (with_reducible refine LeO.bind ?_ (fun _ => ?_))
   | exact ih0 _ _ _ _
   | exact ih1 _ _ _ _ _
   | exact LeO.none _
   | refine LeO.ite ?_ ?_
   | refine LeO.bind ?_ (fun _ => ?_)
  ·intro y0 y1 y2 y3 y4
   unfold footbridgeref01_R_Num.l0
   repeat' first
   | (with_reducible exact ih0 _ _ _ _)
   | (with_reducible exact ih1 _ _ _ _ _)
   | (with_reducible exact LeO.refl _)
   | (with_reducible exact LeO.none _)
   | (with_reducible refine LeO.ite ?_ ?_)
   | (with_reducible refine LeO.bind ?_ (fun _ => ?_))
   | exact ih0 _ _ _ _
   | exact ih1 _ _ _ _ _
   | exact LeO.none _
   | refine LeO.ite ?_ ?_
   | refine LeO.bind ?_ (fun _ => ?_)
theorem footbridgeref01_R_Num.mono : ∀ a0 a1 k, LeO (footbridgeref01_R_Num.f k a0 a1) (footbridgeref01_R_Num.f (k + 1) a0 a1) := by
 intro a0 a1 k
 obtain ⟨ih0, ih1⟩ := footbridgeref01_R_Num.mono_l k
 unfold footbridgeref01_R_Num.f
 repeat' first
   | (with_reducible exact ih0 _ _ _ _)
   | (with_reducible exact ih1 _ _ _ _ _)
   | (with_reducible exact LeO.refl _)
   | (with_reducible exact LeO.none _)
   | (with_reducible refine LeO.ite ?_ ?_)
   | (with_reducible refine LeO.bind ?_ (fun _ => ?_))
   | exact ih0 _ _ _ _
   | exact ih1 _ _ _ _ _
   | exact LeO.none _
   | refine LeO.ite ?_ ?_
   | refine LeO.bind ?_ (fun _ => ?_)
theorem footbridgeref01_R_Num.calls (k : Nat) (a0_0 : ByteArray) (a0_1 : Int) (r1 : ByteArray) (r2 : Int) (r3 : Int) (w : World) (h : footbridgeref01_R_Num.f k a0_0 a0_1 = some (r1, r2, r3)) :
  Calls Tryz.prog 75 #[.agg #[.string a0_0, .int .i64 a0_1]] w fun e w' => e = .returned (.tuple #[.agg #[.string r1, .int .i64 r2], .int .i64 r3]) ∧ Below w.heap.size w w' := by
 have hu75 := Tryz.underlying75
 have HB := As_ (Below.refl w.heap.size w)
 have H : (if a0_1 = 0 then (if a0_0.toList = ([] : List UInt8) then (some (a0_0, 5, 0)) else (if 0 < (a0_0.size : Int) then (if (wrap64 (bt a0_0 0)) > 7 then (some (a0_0, 6, 0)) else (if (wrap64 (bt a0_0 0)) > 0 then (if (a0_0.size : Int) > 1 then (if 1 < (a0_0.size : Int) then (footbridgeref01_R_Num.j0 k (wrap64 (bt a0_0 0)) ((bt a0_0 1) == 0) a0_0 a0_1) else (none)) else (footbridgeref01_R_Num.j0 k (wrap64 (bt a0_0 0)) false a0_0 a0_1)) else (footbridgeref01_R_Num.j0 k (wrap64 (bt a0_0 0)) false a0_0 a0_1))) else (none))) else (some (a0_0, a0_1, 0))) = some (r1, r2, r3) := h
 clear h
 by_cases c2 : a0_1 = 0
 ·rw [if_pos c2] at H
  have c2b0 : (a0_1 == 0) = true := beq_iff_eq.mpr c2
  have c2b1 : (a0_1 != 0) = false := bne_eq_false_iff_eq.mpr c2
  clear c2
  by_cases c3 : a0_0.toList = ([] : List UInt8)
  ·rw [if_pos c3] at H
   have c3b0 : (a0_0.toList == ([] : List UInt8)) = true := beq_iff_eq.mpr c3
   have c3b1 : (a0_0.toList != ([] : List UInt8)) = false := bne_eq_false_iff_eq.mpr c3
   clear c3
   simp only [Option.some.injEq, Prod.mk.injEq] at H
   obtain ⟨rfl, rfl, rfl⟩ := H
   go_enter Tryz.func75, Tryz.ntmps75
   go_wp2_with (first | ((with_reducible refine gate_dst (N := 1) rfl ?_); (try (refine gate_guard (by rfl) ?_; dsimp only)); refine bxE (N := 1) (cs := #[.string a0_0, .int .i64 a0_1]) (t := 75) ?_; intro gb278 hg w4 hbox hb; have BK278 := As_ (hbox); have GW278 := As_ ((by rw [hg]; exact (below_size ap50_) : w.heap.size ≤ gb278)); have GE278 := As_ ((by rw [hg]; exact (below_size ap50_) : w.heap.size ≤ gb278)); replace HB := As_ (below_step ap50_ hb); clear hb hbox hg) | ((with_reducible refine gate_dst (N := 2) rfl ?_); (try (refine gate_guard (by rfl) ?_; dsimp only)); refine bxE (N := 2) (cs := #[.string ⟨#[]⟩, .int .i64 0]) (t := 75) ?_; intro gb279 hg w5 hbox hb; have BK279 := As_ (hbox); have GW279 := As_ ((by rw [hg]; exact (below_size ap63_) : w.heap.size ≤ gb279)); have GE279 := As_ ((by rw [hg]; exact (below_size ap63_) : w.heap.size ≤ gb279)); replace HB := As_ (below_step ap63_ hb); have NB278_279 := As_ ((by rw [hg]; exact Nat.ne_of_lt (blk_lt (g := gb278) (o := .cells #[.string a0_0, .int .i64 a0_1] 75 (0, 0)) ap38_) : gb278 ≠ gb279)); have NB279_278 := As_ ((by rw [hg]; exact Nat.ne_of_gt (blk_lt (g := gb278) (o := .cells #[.string a0_0, .int .i64 a0_1] 75 (0, 0)) ap38_) : gb279 ≠ gb278)); replace BK278 := As_ (blk_below (g := gb278) (o := .cells #[.string a0_0, .int .i64 a0_1] 75 (0, 0)) ap38_ hb); clear hb hbox hg; have hnb6 := NB278_279.out; have hnc6 := NB279_278.out; obtain ⟨hcz7_0, hfz7_0, hcz7_1, hfz7_1⟩ := clN2 BK278.out; obtain ⟨hcz8_0, hfz8_0, hcz8_1, hfz8_1⟩ := clN2 BK279.out))
   refine bodyPost_ret (results_ct rfl _ _ gb279 75 #[.string a0_0, .int .i64 5] (0, 0) _ rfl ap87_ Tryz.underlying75 rfl (by kernel_rfl)) rfl ?_
   exact ⟨ap17_, ap75_⟩
  ·rw [if_neg c3] at H
   have c3b0 : (a0_0.toList == ([] : List UInt8)) = false := beq_eq_false_iff_ne.mpr c3
   have c3b1 : (a0_0.toList != ([] : List UInt8)) = true := bne_iff_ne.mpr c3
   by_cases c9 : 0 < (a0_0.size : Int)
   ·rw [if_pos c9] at H
    have c9b0 : decide (0 < (a0_0.size : Int)) = true := decide_eq_true c9
    have c9b1 : decide (0 < a0_0.size) = true := decide_eq_true (by omega)
    clear c9
    by_cases c11 : (wrap64 (bt a0_0 0)) > 7
    ·rw [if_pos c11] at H
     have c11b0 : decide (7 < (wrap64 (bt a0_0 0))) = true := decide_eq_true c11
     clear c11
     simp only [Option.some.injEq, Prod.mk.injEq] at H
     obtain ⟨rfl, rfl, rfl⟩ := H
     go_enter Tryz.func75, Tryz.ntmps75
     go_wp2_with (first | ((with_reducible refine gate_dst (N := 1) rfl ?_); (try (refine gate_guard (by rfl) ?_; dsimp only)); refine bxE (N := 1) (cs := #[.string a0_0, .int .i64 a0_1]) (t := 75) ?_; intro gb278 hg w12 hbox hb; have BK278 := As_ (hbox); have GW278 := As_ ((by rw [hg]; exact (below_size ap50_) : w.heap.size ≤ gb278)); have GE278 := As_ ((by rw [hg]; exact (below_size ap50_) : w.heap.size ≤ gb278)); replace HB := As_ (below_step ap50_ hb); clear hb hbox hg) | ((with_reducible refine gate_dst (N := 2) rfl ?_); (try (refine gate_guard (by rfl) ?_; dsimp only)); refine bxE (N := 2) (cs := #[.string ⟨#[]⟩, .int .i64 0]) (t := 75) ?_; intro gb279 hg w13 hbox hb; have BK279 := As_ (hbox); have GW279 := As_ ((by rw [hg]; exact (below_size ap63_) : w.heap.size ≤ gb279)); have GE279 := As_ ((by rw [hg]; exact (below_size ap63_) : w.heap.size ≤ gb279)); replace HB := As_ (below_step ap63_ hb); have NB278_279 := As_ ((by rw [hg]; exact Nat.ne_of_lt (blk_lt (g := gb278) (o := .cells #[.string a0_0, .int .i64 a0_1] 75 (0, 0)) ap38_) : gb278 ≠ gb279)); have NB279_278 := As_ ((by rw [hg]; exact Nat.ne_of_gt (blk_lt (g := gb278) (o := .cells #[.string a0_0, .int .i64 a0_1] 75 (0, 0)) ap38_) : gb279 ≠ gb278)); replace BK278 := As_ (blk_below (g := gb278) (o := .cells #[.string a0_0, .int .i64 a0_1] 75 (0, 0)) ap38_ hb); clear hb hbox hg; have hnb14 := NB278_279.out; have hnc14 := NB279_278.out; obtain ⟨hcz15_0, hfz15_0, hcz15_1, hfz15_1⟩ := clN2 BK278.out; have p10 : 0 ≤ (0 : Int) := (by omega); have q10 : 0 < a0_0.size := (by have : (0 : Int) < (a0_0.size : Int) := of_decide_eq_true ap7_; omega); have hx10 : ∀ h : 0 < a0_0.size, ((a0_0[0]'h).toNat : Int) = bt a0_0 0 := bt_at a0_0 0; clear p10; have qi10 : (0 < (a0_0.size : Int)) = True := eq_true (of_decide_eq_true ap7_); replace q10 := eq_true q10; obtain ⟨hcz16_0, hfz16_0, hcz16_1, hfz16_1⟩ := clN2 BK279.out))
     refine bodyPost_ret (results_ct rfl _ _ gb279 75 #[.string a0_0, .int .i64 6] (0, 0) _ rfl ap87_ Tryz.underlying75 rfl (by kernel_rfl)) rfl ?_
     exact ⟨ap17_, ap75_⟩
    ·rw [if_neg c11] at H
     have c11b0 : decide (7 < (wrap64 (bt a0_0 0))) = false := decide_eq_false c11
     clear c11
     have HC17 := As_ H
     clear H
     go_enter Tryz.func75, Tryz.ntmps75
     go_upto_region 8 with (first | ((with_reducible refine gate_dst (N := 1) rfl ?_); (try (refine gate_guard (by rfl) ?_; dsimp only)); refine bxE (N := 1) (cs := #[.string a0_0, .int .i64 a0_1]) (t := 75) ?_; intro gb278 hg w18 hbox hb; have BK278 := As_ (hbox); have GW278 := As_ ((by rw [hg]; exact (below_size ap50_) : w.heap.size ≤ gb278)); have GE278 := As_ ((by rw [hg]; exact (below_size ap50_) : w.heap.size ≤ gb278)); replace HB := As_ (below_step ap50_ hb); clear hb hbox hg) | ((with_reducible refine gate_dst (N := 2) rfl ?_); (try (refine gate_guard (by rfl) ?_; dsimp only)); refine bxE (N := 2) (cs := #[.string ⟨#[]⟩, .int .i64 0]) (t := 75) ?_; intro gb279 hg w19 hbox hb; have BK279 := As_ (hbox); have GW279 := As_ ((by rw [hg]; exact (below_size ap63_) : w.heap.size ≤ gb279)); have GE279 := As_ ((by rw [hg]; exact (below_size ap63_) : w.heap.size ≤ gb279)); replace HB := As_ (below_step ap63_ hb); have NB278_279 := As_ ((by rw [hg]; exact Nat.ne_of_lt (blk_lt (g := gb278) (o := .cells #[.string a0_0, .int .i64 a0_1] 75 (0, 0)) ap38_) : gb278 ≠ gb279)); have NB279_278 := As_ ((by rw [hg]; exact Nat.ne_of_gt (blk_lt (g := gb278) (o := .cells #[.string a0_0, .int .i64 a0_1] 75 (0, 0)) ap38_) : gb279 ≠ gb278)); replace BK278 := As_ (blk_below (g := gb278) (o := .cells #[.string a0_0, .int .i64 a0_1] 75 (0, 0)) ap38_ hb); clear hb hbox hg; have hnb20 := NB278_279.out; have hnc20 := NB279_278.out; obtain ⟨hcz21_0, hfz21_0, hcz21_1, hfz21_1⟩ := clN2 BK278.out; have p10 : 0 ≤ (0 : Int) := (by omega); have q10 : 0 < a0_0.size := (by have : (0 : Int) < (a0_0.size : Int) := of_decide_eq_true ap7_; omega); have hx10 : ∀ h : 0 < a0_0.size, ((a0_0[0]'h).toNat : Int) = bt a0_0 0 := bt_at a0_0 0; clear p10; have qi10 : (0 < (a0_0.size : Int)) = True := eq_true (of_decide_eq_true ap7_); replace q10 := eq_true q10))
     (try simp only [Act.put, List.setIfInBounds_toArray, List.set_cons_zero, List.set_cons_succ])
     go_cut [39] (fun v39 wc => ∃ (kq : Nat) (x39_16 : Bool), v39 = .bool x39_16 ∧ Aside0 (footbridgeref01_R_Num.j0 kq (wrap64 (bt a0_0 0)) x39_16 a0_0 a0_1 = some (r1, r2, r3)) ∧ Aside0 (kq ≤ k) ∧ Aside0 (wc.heap[gb278]? = some (.cells #[.string a0_0, .int .i64 a0_1] 75 (0, 0))) ∧ Aside0 (wc.heap[gb279]? = some (.cells #[.string ⟨#[]⟩, .int .i64 0] 75 (0, 0))) ∧ Aside0 (Below w.heap.size w wc))
     case first =>
      have H := HC17.out
      clear HC17
      by_cases c22 : (wrap64 (bt a0_0 0)) > 0
      ·rw [if_pos c22] at H
       have c22b0 : decide (0 < (wrap64 (bt a0_0 0))) = true := decide_eq_true c22
       clear c22
       (first | rw [c22b0] | (simp only [i64_w, i32_w]; rw [c22b0]) | skip)
       by_cases c23 : (a0_0.size : Int) > 1
       ·rw [if_pos c23] at H
        have c23b0 : decide (1 < (a0_0.size : Int)) = true := decide_eq_true c23
        have c23b1 : decide (1 < a0_0.size) = true := decide_eq_true (by omega)
        clear c23
        by_cases c24 : 1 < (a0_0.size : Int)
        ·rw [if_pos c24] at H
         have c24b0 : decide (1 < (a0_0.size : Int)) = true := decide_eq_true c24
         have c24b1 : decide (1 < a0_0.size) = true := decide_eq_true (by omega)
         clear c24
         have H' := As_ H
         clear H
         have hnb26 := NB278_279.out
         have hnc26 := NB279_278.out
         obtain ⟨hcz27_0, hfz27_0, hcz27_1, hfz27_1⟩ := clN2 BK278.out
         have p25 : 0 ≤ (1 : Int) := (by omega)
         have q25 : 1 < a0_0.size := (by have : (1 : Int) < (a0_0.size : Int) := of_decide_eq_true ap7_; omega)
         have hx25 : ∀ h : 1 < a0_0.size, ((a0_0[1]'h).toNat : Int) = bt a0_0 1 := bt_at a0_0 1
         clear p25
         have qi25 : (1 < (a0_0.size : Int)) = True := eq_true (of_decide_eq_true ap7_)
         replace q25 := eq_true q25
         go_wp2
         go_meet
         case rel => exact ⟨_, (((bt a0_0 1) == 0)), ap5_, H', ⟨ap1_⟩, ⟨ap38_⟩, ⟨ap46_⟩, ⟨ap75_⟩⟩
        ·rw [if_neg c24] at H
         exact absurd H (by simp)
       ·rw [if_neg c23] at H
        have c23b0 : decide (1 < (a0_0.size : Int)) = false := decide_eq_false c23
        have c23b1 : decide (1 < a0_0.size) = false := decide_eq_false (by omega)
        clear c23
        have H' := As_ H
        clear H
        have hnb28 := NB278_279.out
        have hnc28 := NB279_278.out
        obtain ⟨hcz29_0, hfz29_0, hcz29_1, hfz29_1⟩ := clN2 BK278.out
        go_wp2
        go_meet
        case rel => exact ⟨_, (false), ap5_, H', ⟨ap1_⟩, ⟨ap38_⟩, ⟨ap46_⟩, ⟨ap75_⟩⟩
      ·rw [if_neg c22] at H
       have c22b0 : decide (0 < (wrap64 (bt a0_0 0))) = false := decide_eq_false c22
       clear c22
       (first | rw [c22b0] | (simp only [i64_w, i32_w]; rw [c22b0]) | skip)
       have H' := As_ H
       clear H
       go_wp2
       go_meet
       case rel => exact ⟨_, (false), ap5_, H', ⟨ap1_⟩, ⟨ap38_⟩, ⟨ap46_⟩, ⟨ap75_⟩⟩
     case rest =>
      clear HC17
      try clear c2
      try clear c2b0
      try clear c2b1
      try clear c3
      try clear c3b0
      try clear c3b1
      try clear c9
      try clear c9b0
      try clear c9b1
      try clear p10
      try clear q10
      try clear hx10
      try clear qi10
      try clear c11
      try clear c11b0
      try clear hcz21_0
      try clear hcz21_1
      try clear hfz21_0
      try clear hfz21_1
      try clear p10
      try clear q10
      obtain ⟨kq, x39_16, rfl, HA, HJ16, BK278, BK279, HB⟩ := hcut
      cases kq with
      | zero => exact absurd HA.out (by simp [footbridgeref01_R_Num.j0])
      | succ kj16 =>
       have H := HA.out
       clear HA
       simp only [footbridgeref01_R_Num.j0] at H
       by_cases c30 : x39_16 = true
       ·subst c30
        have H1 : (some (a0_0, 6, 0)) = some (r1, r2, r3) := by rw [if_pos rfl] at H; exact H
        clear H
        have H := H1
        clear H1
        simp only [Option.some.injEq, Prod.mk.injEq] at H
        obtain ⟨rfl, rfl, rfl⟩ := H
        have hnb31 := NB278_279.out
        have hnc31 := NB279_278.out
        obtain ⟨hcz32_0, hfz32_0, hcz32_1, hfz32_1⟩ := clN2 BK278.out
        obtain ⟨hcz33_0, hfz33_0, hcz33_1, hfz33_1⟩ := clN2 BK279.out
        go_wp2
        refine bodyPost_ret (results_ct rfl _ _ gb279 75 #[.string a0_0, .int .i64 6] (0, 0) _ rfl ap87_ Tryz.underlying75 rfl (by kernel_rfl)) rfl ?_
        exact ⟨ap17_, ap75_⟩
       ·replace c30 := Bool.eq_false_iff.mpr c30
        subst c30
        have H1 : (if (wrap64 ((a0_0.size : Int) - 1)) < (wrap64 (bt a0_0 0)) then (some (a0_0, 5, 0)) else (footbridgeref01_R_Num.l0 kj16 (wrap64 (bt a0_0 0)) 0 1 a0_0 a0_1)) = some (r1, r2, r3) := by rw [if_neg (show ¬ (false = true) by decide)] at H; exact H
        clear H
        have H := H1
        clear H1
        by_cases c34 : (wrap64 ((a0_0.size : Int) - 1)) < (wrap64 (bt a0_0 0))
        ·rw [if_pos c34] at H
         have c34b0 : decide ((wrap64 ((a0_0.size : Int) - 1)) < (wrap64 (bt a0_0 0))) = true := decide_eq_true c34
         clear c34
         simp only [Option.some.injEq, Prod.mk.injEq] at H
         obtain ⟨rfl, rfl, rfl⟩ := H
         have hnb35 := NB278_279.out
         have hnc35 := NB279_278.out
         obtain ⟨hcz36_0, hfz36_0, hcz36_1, hfz36_1⟩ := clN2 BK278.out
         obtain ⟨hcz37_0, hfz37_0, hcz37_1, hfz37_1⟩ := clN2 BK279.out
         go_wp2
         refine bodyPost_ret (results_ct rfl _ _ gb279 75 #[.string a0_0, .int .i64 5] (0, 0) _ rfl ap87_ Tryz.underlying75 rfl (by kernel_rfl)) rfl ?_
         exact ⟨ap17_, ap75_⟩
        ·rw [if_neg c34] at H
         have c34b0 : decide ((wrap64 ((a0_0.size : Int) - 1)) < (wrap64 (bt a0_0 0))) = false := decide_eq_false c34
         clear c34
         have H' := As_ H
         clear H
         have hnb38 := NB278_279.out
         have hnc38 := NB279_278.out
         obtain ⟨hcz39_0, hfz39_0, hcz39_1, hfz39_1⟩ := clN2 BK278.out
         go_wp2
         go_loopg [5, 6] kj16 (fun kq v5 v6 w' => ∃ (x5_2 : Int) (x6_2 : Int), v5 = .int .i64 x5_2 ∧ v6 = .int .i64 x6_2 ∧ Aside0 (footbridgeref01_R_Num.l0 kq (wrap64 (bt a0_0 0)) x5_2 x6_2 a0_0 a0_1 = some (r1, r2, r3)) ∧ Aside0 (kq ≤ kj16) ∧ Aside0 (w'.heap[gb278]? = some (.cells #[.string a0_0, .int .i64 a0_1] 75 (0, 0))) ∧ Aside0 (w'.heap[gb279]? = some (.cells #[.string ⟨#[]⟩, .int .i64 0] 75 (0, 0))) ∧ Aside0 (Below w.heap.size w w'))
         case atStart => exact ⟨(0), (1), ap5_, ap5_, H', ⟨Nat.le_refl _⟩, ⟨ap38_⟩, ⟨ap46_⟩, ⟨ap75_⟩⟩
         case round =>
          clear H'
          try clear c2
          try clear c2b0
          try clear c2b1
          try clear c3
          try clear c3b0
          try clear c3b1
          try clear c9
          try clear c9b0
          try clear c9b1
          try clear p10
          try clear q10
          try clear hx10
          try clear qi10
          try clear c11
          try clear c11b0
          try clear c30
          try clear c34
          try clear c34b0
          try clear hcz21_0
          try clear hcz21_1
          try clear hcz39_0
          try clear hcz39_1
          try clear hfz21_0
          try clear hfz21_1
          try clear hfz39_0
          try clear hfz39_1
          try clear p10
          try clear q10
          obtain ⟨x5_2, x6_2, rfl, rfl, HA, HK2, BK278, BK279, HB⟩ := hrel
          cases gk with
          | zero => exact absurd HA.out (by simp [footbridgeref01_R_Num.l0])
          | succ k2 =>
           have H := HA.out
           clear HA
           simp only [footbridgeref01_R_Num.l0] at H
           by_cases c40 : x6_2 ≤ (wrap64 (bt a0_0 0))
           ·rw [if_pos c40] at H
            have c40b0 : decide (x6_2 ≤ (wrap64 (bt a0_0 0))) = true := decide_eq_true c40
            clear c40
            by_cases c41 : 0 ≤ x6_2
            ·rw [if_pos c41] at H
             have c41b0 : decide (0 ≤ x6_2) = true := decide_eq_true c41
             clear c41
             by_cases c42 : x6_2 < (a0_0.size : Int)
             ·rw [if_pos c42] at H
              have c42b0 : decide (x6_2 < (a0_0.size : Int)) = true := decide_eq_true c42
              clear c42
              have H' := As_ H
              clear H
              have hnb44 := NB278_279.out
              have hnc44 := NB279_278.out
              obtain ⟨hcz45_0, hfz45_0, hcz45_1, hfz45_1⟩ := clN2 BK278.out
              have p43 : 0 ≤ (x6_2 : Int) := of_decide_eq_true ap7_
              have q43 : x6_2 < (a0_0.size : Int) := of_decide_eq_true ap7_
              have hx43 := bt_at a0_0 x6_2
              replace p43 := eq_true p43
              replace q43 := eq_true q43
              go_wp2
              go_roundg k2
              case measure => have := HJ16.out; have := HK2.out; omega
              case rel => exact ⟨(wrap64 ((wrap64 (x5_2 * 256)) + (wrap64 (bt a0_0 x6_2)))), (wrap64 (x6_2 + 1)), ap5_, ap5_, H', ⟨by have := HJ16.out; have := HK2.out; omega⟩, ⟨ap38_⟩, ⟨ap46_⟩, ⟨ap75_⟩⟩
             ·rw [if_neg c42] at H
              exact absurd H (by simp)
            ·rw [if_neg c41] at H
             exact absurd H (by simp)
           ·rw [if_neg c40] at H
            have c40b0 : decide (x6_2 ≤ (wrap64 (bt a0_0 0))) = false := decide_eq_false c40
            clear c40
            by_cases c46 : x5_2 > 9007199254740992
            ·rw [if_pos c46] at H
             have c46b0 : decide (9007199254740992 < x5_2) = true := decide_eq_true c46
             clear c46
             simp only [Option.some.injEq, Prod.mk.injEq] at H
             obtain ⟨rfl, rfl, rfl⟩ := H
             have hnb47 := NB278_279.out
             have hnc47 := NB279_278.out
             obtain ⟨hcz48_0, hfz48_0, hcz48_1, hfz48_1⟩ := clN2 BK278.out
             obtain ⟨hcz49_0, hfz49_0, hcz49_1, hfz49_1⟩ := clN2 BK279.out
             go_wp2
             refine bodyPost_ret (results_ct rfl _ _ gb279 75 #[.string a0_0, .int .i64 3] (0, 0) _ rfl ap87_ Tryz.underlying75 rfl (by kernel_rfl)) rfl ?_
             exact ⟨ap17_, ap75_⟩
            ·rw [if_neg c46] at H
             have c46b0 : decide (9007199254740992 < x5_2) = false := decide_eq_false c46
             clear c46
             obtain ⟨ji50, hji50⟩ : ∃ j_ : Int, (wrap64 (1 + (wrap64 (bt a0_0 0)))) = j_ := ⟨_, rfl⟩
             replace H : (if 0 ≤ (ji50) then (if (ji50) ≤ (a0_0.size : Int) then (some (a0_0.extract ((ji50) : Int).toNat a0_0.size, 0, x5_2)) else (none)) else (none)) = some (r1, r2, r3) := by first | (rw [hji50] at H; exact H) | (simp only [hji50] at H ⊢; exact H)
             have hji50w : (IntKind.i64.wrap (1 + (wrap64 (bt a0_0 0)))) = ji50 := (i64_w _).trans hji50
             by_cases c51 : 0 ≤ (ji50)
             ·rw [if_pos c51] at H
              have c51b0 := eq_true c51
              have c51b1 : decide (0 ≤ (ji50)) = true := decide_eq_true c51
              clear c51
              by_cases c52 : (ji50) ≤ (a0_0.size : Int)
              ·rw [if_pos c52] at H
               have c52b0 := eq_true c52
               have c52b1 : decide ((ji50) ≤ (a0_0.size : Int)) = true := decide_eq_true c52
               clear c52
               simp only [Option.some.injEq, Prod.mk.injEq] at H
               obtain ⟨rfl, rfl, rfl⟩ := H
               have hnb53 := NB278_279.out
               have hnc53 := NB279_278.out
               obtain ⟨hcz54_0, hfz54_0, hcz54_1, hfz54_1⟩ := clN2 BK278.out
               obtain ⟨hcz55_0, hfz55_0, hcz55_1, hfz55_1⟩ := clN2 BK279.out
               go_wp2
               refine bodyPost_ret (results_ct rfl _ _ gb279 75 #[.string (a0_0.extract ((ji50) : Int).toNat a0_0.size), .int .i64 0] (0, 0) _ rfl (by (with_reducible repeat (first | refine blk_drewN ?_ _ | refine blk_drew ?_ | refine blk_alloc ?_ _)); refine blk_put (cs := #[.string (a0_0.extract ((ji50) : Int).toNat a0_0.size), .int .i64 0]) ?_ 1 _ rfl; (with_reducible repeat (first | refine blk_drewN ?_ _ | refine blk_drew ?_ | refine blk_alloc ?_ _)); refine blk_put (cs := #[.string ⟨#[]⟩, .int .i64 0]) ?_ 0 _ rfl; (with_reducible repeat (first | refine blk_drewN ?_ _ | refine blk_drew ?_ | refine blk_alloc ?_ _)); exact BK279.out) Tryz.underlying75 rfl (by kernel_rfl)) rfl ?_
               exact ⟨by first | rfl | (simp [errW_none, errW_some] <;> rfl) | (simp only [← hji50]; first | rfl | (simp [errW_none, errW_some] <;> rfl)) | (simp [*, errW_none, errW_some] <;> rfl), ap75_⟩
              ·rw [if_neg c52] at H
               exact absurd H (by simp)
             ·rw [if_neg c51] at H
              exact absurd H (by simp)
   ·rw [if_neg c9] at H
    exact absurd H (by simp)
 ·rw [if_neg c2] at H
  have c2b0 : (a0_1 == 0) = false := beq_eq_false_iff_ne.mpr c2
  have c2b1 : (a0_1 != 0) = true := bne_iff_ne.mpr c2
  simp only [Option.some.injEq, Prod.mk.injEq] at H
  obtain ⟨rfl, rfl, rfl⟩ := H
  go_enter Tryz.func75, Tryz.ntmps75
  go_wp2_with (first | ((with_reducible refine gate_dst (N := 1) rfl ?_); (try (refine gate_guard (by rfl) ?_; dsimp only)); refine bxE (N := 1) (cs := #[.string a0_0, .int .i64 a0_1]) (t := 75) ?_; intro gb278 hg w56 hbox hb; have BK278 := As_ (hbox); have GW278 := As_ ((by rw [hg]; exact (below_size ap50_) : w.heap.size ≤ gb278)); have GE278 := As_ ((by rw [hg]; exact (below_size ap50_) : w.heap.size ≤ gb278)); replace HB := As_ (below_step ap50_ hb); clear hb hbox hg) | ((with_reducible refine gate_dst (N := 2) rfl ?_); (try (refine gate_guard (by rfl) ?_; dsimp only)); refine bxE (N := 2) (cs := #[.string ⟨#[]⟩, .int .i64 0]) (t := 75) ?_; intro gb279 hg w57 hbox hb; have BK279 := As_ (hbox); have GW279 := As_ ((by rw [hg]; exact (below_size ap63_) : w.heap.size ≤ gb279)); have GE279 := As_ ((by rw [hg]; exact (below_size ap63_) : w.heap.size ≤ gb279)); replace HB := As_ (below_step ap63_ hb); have NB278_279 := As_ ((by rw [hg]; exact Nat.ne_of_lt (blk_lt (g := gb278) (o := .cells #[.string a0_0, .int .i64 a0_1] 75 (0, 0)) ap38_) : gb278 ≠ gb279)); have NB279_278 := As_ ((by rw [hg]; exact Nat.ne_of_gt (blk_lt (g := gb278) (o := .cells #[.string a0_0, .int .i64 a0_1] 75 (0, 0)) ap38_) : gb279 ≠ gb278)); replace BK278 := As_ (blk_below (g := gb278) (o := .cells #[.string a0_0, .int .i64 a0_1] 75 (0, 0)) ap38_ hb); clear hb hbox hg; have hnb58 := NB278_279.out; have hnc58 := NB279_278.out; obtain ⟨hcz59_0, hfz59_0, hcz59_1, hfz59_1⟩ := clN2 BK278.out; obtain ⟨hcz60_0, hfz60_0, hcz60_1, hfz60_1⟩ := clN2 BK279.out))
  refine bodyPost_ret (results_ct rfl _ _ gb279 75 #[.string a0_0, .int .i64 a0_1] (0, 0) _ rfl ap87_ Tryz.underlying75 rfl (by kernel_rfl)) rfl ?_
  exact ⟨ap17_, ap75_⟩
def footbridgeref01_R_Text.f (k : Nat) (a0_0 : ByteArray) (a0_1 : Int) : Option (ByteArray × Int × ByteArray) := (footbridgeref01_R_Num.f k a0_0 a0_1).bind fun bt282 => (if bt282.2.1 = 0 then (if bt282.2.2 > 65536 then (some (a0_0, 4, (⟨#[]⟩ : ByteArray))) else (if bt282.2.2 > (bt282.1.size : Int) then (some (a0_0, 5, (⟨#[]⟩ : ByteArray))) else (if 0 ≤ bt282.2.2 then (if bt282.2.2 ≤ (bt282.1.size : Int) then (some (bt282.1.extract (bt282.2.2 : Int).toNat bt282.1.size, 0, bt282.1.extract 0 (bt282.2.2 : Int).toNat)) else (none)) else (none)))) else (some (bt282.1, bt282.2.1, (⟨#[]⟩ : ByteArray))))
theorem footbridgeref01_R_Text.mono : ∀ a0 a1 k, LeO (footbridgeref01_R_Text.f k a0 a1) (footbridgeref01_R_Text.f (k + 1) a0 a1) := by
 intro a0 a1 k
 unfold footbridgeref01_R_Text.f
 repeat' first
   | (with_reducible exact footbridgeref01_R_Num.mono _ _ _)
   | (with_reducible exact LeO.refl _)
   | (with_reducible exact LeO.none _)
   | (with_reducible refine LeO.ite ?_ ?_)
   | (with_reducible refine LeO.bind ?_ (fun _ => ?_))
   | exact footbridgeref01_R_Num.mono _ _ _
   | exact LeO.none _
   | refine LeO.ite ?_ ?_
   | refine LeO.bind ?_ (fun _ => ?_)
def footbridgeref01_R_Text.T8 : Bool × List (List Nat × List Nat) := (true, [([], []), ([0], [0]), ([], []), ([1, 2], [1, 2]), ([3], [3]), ([], []), ([5], [5]), ([], []), ([6, 7], [6, 7]), ([4, 0, 1, 2, 3, 4], [4]), ([8, 9, 0, 1, 2, 3, 4, 5, 6, 7, 8, 9], [8])])
def footbridgeref01_R_Text.B8 : List Nat := [0, 1, 0, 7, 15, 0, 32, 0, 224, 31, 1023]
theorem footbridgeref01_R_Text.tab8 : rtab .any (opsOf Tryz.f42 8) = footbridgeref01_R_Text.T8 := by kernel_rfl
theorem footbridgeref01_R_Text.bits8 : waitsOk footbridgeref01_R_Text.T8.2 footbridgeref01_R_Text.B8 = true := by kernel_rfl
theorem footbridgeref01_R_Text.calls (k : Nat) (a0_0 : ByteArray) (a0_1 : Int) (r1 : ByteArray) (r2 : Int) (r3 : ByteArray) (w : World) (h : footbridgeref01_R_Text.f k a0_0 a0_1 = some (r1, r2, r3)) :
  Calls Tryz.prog 42 #[.agg #[.string a0_0, .int .i64 a0_1]] w fun e w' => e = .returned (.tuple #[.agg #[.string r1, .int .i64 r2], .string r3]) ∧ Below w.heap.size w w' := by
 have hu75 := Tryz.underlying75
 have HB := As_ (Below.refl w.heap.size w)
 have H : ((footbridgeref01_R_Num.f k a0_0 a0_1).bind fun bt282 => (if bt282.2.1 = 0 then (if bt282.2.2 > 65536 then (some (a0_0, 4, (⟨#[]⟩ : ByteArray))) else (if bt282.2.2 > (bt282.1.size : Int) then (some (a0_0, 5, (⟨#[]⟩ : ByteArray))) else (if 0 ≤ bt282.2.2 then (if bt282.2.2 ≤ (bt282.1.size : Int) then (some (bt282.1.extract (bt282.2.2 : Int).toNat bt282.1.size, 0, bt282.1.extract 0 (bt282.2.2 : Int).toNat)) else (none)) else (none)))) else (some (bt282.1, bt282.2.1, (⟨#[]⟩ : ByteArray))))) = some (r1, r2, r3) := h
 clear h
 replace H := Option.bind_eq_some_iff.mp H
 obtain ⟨⟨t282, t283, t284⟩, A20, H⟩ := H
 try dsimp only at H
 have A2 := As_ A20
 clear A20
 by_cases c3 : t283 = 0
 ·rw [if_pos c3] at H
  have c3b0 : (t283 == 0) = true := beq_iff_eq.mpr c3
  have c3b1 : (t283 != 0) = false := bne_eq_false_iff_eq.mpr c3
  clear c3
  by_cases c4 : t284 > 65536
  ·rw [if_pos c4] at H
   have c4b0 : decide (65536 < t284) = true := decide_eq_true c4
   clear c4
   simp only [Option.some.injEq, Prod.mk.injEq] at H
   obtain ⟨rfl, rfl, rfl⟩ := H
   go_enter Tryz.func42, Tryz.ntmps42
   go_wp2_with (first | ((with_reducible refine gate_dst (N := 1) rfl ?_); refine bxE (N := 1) (cs := #[.string a0_0, .int .i64 a0_1]) (t := 75) ?_; intro gb280 hg w5 hbox hb; have BK280 := As_ (hbox); have GW280 := As_ ((by rw [hg]; exact (below_size ap50_) : w.heap.size ≤ gb280)); have GE280 := As_ ((by rw [hg]; exact (below_size ap50_) : w.heap.size ≤ gb280)); replace HB := As_ (below_step ap50_ hb); clear hb hbox hg) | ((with_reducible refine gate_dst (N := 2) rfl ?_); refine bxE (N := 2) (cs := #[.string ⟨#[]⟩, .int .i64 0]) (t := 75) ?_; intro gb281 hg w6 hbox hb; have BK281 := As_ (hbox); have GW281 := As_ ((by rw [hg]; exact (below_size ap62_) : w.heap.size ≤ gb281)); have GE281 := As_ ((by rw [hg]; exact (below_size ap62_) : w.heap.size ≤ gb281)); replace HB := As_ (below_step ap62_ hb); have NB280_281 := As_ ((by rw [hg]; exact Nat.ne_of_lt (blk_lt (g := gb280) (o := .cells #[.string a0_0, .int .i64 a0_1] 75 (0, 0)) ap36_) : gb280 ≠ gb281)); have NB281_280 := As_ ((by rw [hg]; exact Nat.ne_of_gt (blk_lt (g := gb280) (o := .cells #[.string a0_0, .int .i64 a0_1] 75 (0, 0)) ap36_) : gb281 ≠ gb280)); replace BK280 := As_ (blk_below (g := gb280) (o := .cells #[.string a0_0, .int .i64 a0_1] 75 (0, 0)) ap36_ hb); clear hb hbox hg; have hnb7 := NB280_281.out; have hnc7 := NB281_280.out; obtain ⟨hcz8_0, hfz8_0, hcz8_1, hfz8_1⟩ := clN2 BK280.out) | ((with_reducible refine gate_callee (f := 75) rfl ?_); refine gk_ (some 8) Tryz.func75 #[.agg #[.string a0_0, .int .i64 a0_1]] ?_; (with_reducible refine (footbridgeref01_R_Num.calls k a0_0 a0_1 t282 t283 t284 _ A2.out).mono ?_); rintro e w9 ⟨rfl, hb⟩; refine ⟨_, rfl, ?_⟩; replace BK280 := As_ (blk_below (g := gb280) (o := .cells #[.string a0_0, .int .i64 a0_1] 75 (0, 0)) ap36_ hb); replace BK281 := As_ (blk_below (g := gb281) (o := .cells #[.string ⟨#[]⟩, .int .i64 0] 75 (0, 0)) ap39_ hb); replace HB := As_ (below_step ap74_ hb); (try clear hb); (try clear hb2); (try clear hk); (try clear hi)) | ((with_reducible refine gate_dst (N := 4) rfl ?_); refine bxE (N := 4) (cs := #[.string ⟨#[]⟩, .int .i64 0]) (t := 75) ?_; intro gb285 hg w10 hbox hb; have BK285 := As_ (hbox); have GW285 := As_ ((by rw [hg]; exact (below_size ap74_) : w.heap.size ≤ gb285)); have GE285 := As_ ((by rw [hg]; exact (below_size ap74_) : w.heap.size ≤ gb285)); replace HB := As_ (below_step ap74_ hb); have NB280_285 := As_ ((by rw [hg]; exact Nat.ne_of_lt (blk_lt (g := gb280) (o := .cells #[.string a0_0, .int .i64 a0_1] 75 (0, 0)) ap36_) : gb280 ≠ gb285)); have NB285_280 := As_ ((by rw [hg]; exact Nat.ne_of_gt (blk_lt (g := gb280) (o := .cells #[.string a0_0, .int .i64 a0_1] 75 (0, 0)) ap36_) : gb285 ≠ gb280)); replace BK280 := As_ (blk_below (g := gb280) (o := .cells #[.string a0_0, .int .i64 a0_1] 75 (0, 0)) ap36_ hb); have NB281_285 := As_ ((by rw [hg]; exact Nat.ne_of_lt (blk_lt (g := gb281) (o := .cells #[.string ⟨#[]⟩, .int .i64 0] 75 (0, 0)) ap39_) : gb281 ≠ gb285)); have NB285_281 := As_ ((by rw [hg]; exact Nat.ne_of_gt (blk_lt (g := gb281) (o := .cells #[.string ⟨#[]⟩, .int .i64 0] 75 (0, 0)) ap39_) : gb285 ≠ gb281)); replace BK281 := As_ (blk_below (g := gb281) (o := .cells #[.string ⟨#[]⟩, .int .i64 0] 75 (0, 0)) ap39_ hb); clear hb hbox hg; have hnb11 := NB285_280.out; have hnc11 := NB280_285.out; have hnb12 := NB285_281.out; have hnc12 := NB281_285.out; obtain ⟨hcz13_0, hfz13_0, hcz13_1, hfz13_1⟩ := clN2 BK285.out; obtain ⟨hcz14_0, hfz14_0, hcz14_1, hfz14_1⟩ := clN2 BK280.out; obtain ⟨hcz15_0, hfz15_0, hcz15_1, hfz15_1⟩ := clN2 BK281.out))
   refine bodyPost_ret (results_ct rfl _ _ gb281 75 #[.string a0_0, .int .i64 4] (0, 0) _ rfl ap107_ Tryz.underlying75 rfl (by kernel_rfl)) rfl ?_
   exact ⟨ap17_, ap81_⟩
  ·rw [if_neg c4] at H
   have c4b0 : decide (65536 < t284) = false := decide_eq_false c4
   clear c4
   by_cases c16 : t284 > (t282.size : Int)
   ·rw [if_pos c16] at H
    have c16b0 : decide ((t282.size : Int) < t284) = true := decide_eq_true c16
    clear c16
    simp only [Option.some.injEq, Prod.mk.injEq] at H
    obtain ⟨rfl, rfl, rfl⟩ := H
    go_enter Tryz.func42, Tryz.ntmps42
    go_wp2_with (first | ((with_reducible refine gate_dst (N := 1) rfl ?_); refine bxE (N := 1) (cs := #[.string a0_0, .int .i64 a0_1]) (t := 75) ?_; intro gb280 hg w17 hbox hb; have BK280 := As_ (hbox); have GW280 := As_ ((by rw [hg]; exact (below_size ap50_) : w.heap.size ≤ gb280)); have GE280 := As_ ((by rw [hg]; exact (below_size ap50_) : w.heap.size ≤ gb280)); replace HB := As_ (below_step ap50_ hb); clear hb hbox hg) | ((with_reducible refine gate_dst (N := 2) rfl ?_); refine bxE (N := 2) (cs := #[.string ⟨#[]⟩, .int .i64 0]) (t := 75) ?_; intro gb281 hg w18 hbox hb; have BK281 := As_ (hbox); have GW281 := As_ ((by rw [hg]; exact (below_size ap62_) : w.heap.size ≤ gb281)); have GE281 := As_ ((by rw [hg]; exact (below_size ap62_) : w.heap.size ≤ gb281)); replace HB := As_ (below_step ap62_ hb); have NB280_281 := As_ ((by rw [hg]; exact Nat.ne_of_lt (blk_lt (g := gb280) (o := .cells #[.string a0_0, .int .i64 a0_1] 75 (0, 0)) ap36_) : gb280 ≠ gb281)); have NB281_280 := As_ ((by rw [hg]; exact Nat.ne_of_gt (blk_lt (g := gb280) (o := .cells #[.string a0_0, .int .i64 a0_1] 75 (0, 0)) ap36_) : gb281 ≠ gb280)); replace BK280 := As_ (blk_below (g := gb280) (o := .cells #[.string a0_0, .int .i64 a0_1] 75 (0, 0)) ap36_ hb); clear hb hbox hg; have hnb19 := NB280_281.out; have hnc19 := NB281_280.out; obtain ⟨hcz20_0, hfz20_0, hcz20_1, hfz20_1⟩ := clN2 BK280.out) | ((with_reducible refine gate_callee (f := 75) rfl ?_); refine gk_ (some 8) Tryz.func75 #[.agg #[.string a0_0, .int .i64 a0_1]] ?_; (with_reducible refine (footbridgeref01_R_Num.calls k a0_0 a0_1 t282 t283 t284 _ A2.out).mono ?_); rintro e w21 ⟨rfl, hb⟩; refine ⟨_, rfl, ?_⟩; replace BK280 := As_ (blk_below (g := gb280) (o := .cells #[.string a0_0, .int .i64 a0_1] 75 (0, 0)) ap36_ hb); replace BK281 := As_ (blk_below (g := gb281) (o := .cells #[.string ⟨#[]⟩, .int .i64 0] 75 (0, 0)) ap39_ hb); replace HB := As_ (below_step ap74_ hb); (try clear hb); (try clear hb2); (try clear hk); (try clear hi)) | ((with_reducible refine gate_dst (N := 4) rfl ?_); refine bxE (N := 4) (cs := #[.string ⟨#[]⟩, .int .i64 0]) (t := 75) ?_; intro gb285 hg w22 hbox hb; have BK285 := As_ (hbox); have GW285 := As_ ((by rw [hg]; exact (below_size ap74_) : w.heap.size ≤ gb285)); have GE285 := As_ ((by rw [hg]; exact (below_size ap74_) : w.heap.size ≤ gb285)); replace HB := As_ (below_step ap74_ hb); have NB280_285 := As_ ((by rw [hg]; exact Nat.ne_of_lt (blk_lt (g := gb280) (o := .cells #[.string a0_0, .int .i64 a0_1] 75 (0, 0)) ap36_) : gb280 ≠ gb285)); have NB285_280 := As_ ((by rw [hg]; exact Nat.ne_of_gt (blk_lt (g := gb280) (o := .cells #[.string a0_0, .int .i64 a0_1] 75 (0, 0)) ap36_) : gb285 ≠ gb280)); replace BK280 := As_ (blk_below (g := gb280) (o := .cells #[.string a0_0, .int .i64 a0_1] 75 (0, 0)) ap36_ hb); have NB281_285 := As_ ((by rw [hg]; exact Nat.ne_of_lt (blk_lt (g := gb281) (o := .cells #[.string ⟨#[]⟩, .int .i64 0] 75 (0, 0)) ap39_) : gb281 ≠ gb285)); have NB285_281 := As_ ((by rw [hg]; exact Nat.ne_of_gt (blk_lt (g := gb281) (o := .cells #[.string ⟨#[]⟩, .int .i64 0] 75 (0, 0)) ap39_) : gb285 ≠ gb281)); replace BK281 := As_ (blk_below (g := gb281) (o := .cells #[.string ⟨#[]⟩, .int .i64 0] 75 (0, 0)) ap39_ hb); clear hb hbox hg; have hnb23 := NB285_280.out; have hnc23 := NB280_285.out; have hnb24 := NB285_281.out; have hnc24 := NB281_285.out; obtain ⟨hcz25_0, hfz25_0, hcz25_1, hfz25_1⟩ := clN2 BK285.out; obtain ⟨hcz26_0, hfz26_0, hcz26_1, hfz26_1⟩ := clN2 BK280.out; obtain ⟨hcz27_0, hfz27_0, hcz27_1, hfz27_1⟩ := clN2 BK281.out))
    refine bodyPost_ret (results_ct rfl _ _ gb281 75 #[.string a0_0, .int .i64 5] (0, 0) _ rfl ap107_ Tryz.underlying75 rfl (by kernel_rfl)) rfl ?_
    exact ⟨ap17_, ap81_⟩
   ·rw [if_neg c16] at H
    have c16b0 : decide ((t282.size : Int) < t284) = false := decide_eq_false c16
    clear c16
    by_cases c28 : 0 ≤ t284
    ·rw [if_pos c28] at H
     have c28b0 := eq_true c28
     have c28b1 : decide (0 ≤ t284) = true := decide_eq_true c28
     clear c28
     by_cases c29 : t284 ≤ (t282.size : Int)
     ·rw [if_pos c29] at H
      have c29b0 := eq_true c29
      have c29b1 : decide (t284 ≤ (t282.size : Int)) = true := decide_eq_true c29
      clear c29
      have c30b0 := eq_true (of_decide_eq_true ap7_ : 0 ≤ t284)
      have c31b0 := eq_true (of_decide_eq_true ap7_ : t284 ≤ (t282.size : Int))
      simp only [Option.some.injEq, Prod.mk.injEq] at H
      obtain ⟨rfl, rfl, rfl⟩ := H
      go_enter Tryz.func42, Tryz.ntmps42
      try go_wp2_with (first | ((with_reducible refine gate_dst (N := 1) rfl ?_); refine bxE (N := 1) (cs := #[.string a0_0, .int .i64 a0_1]) (t := 75) ?_; intro gb280 hg w32 hbox hb; have BK280 := As_ (hbox); have GW280 := As_ ((by rw [hg]; exact (below_size ap50_) : w.heap.size ≤ gb280)); have GE280 := As_ ((by rw [hg]; exact (below_size ap50_) : w.heap.size ≤ gb280)); replace HB := As_ (below_step ap50_ hb); clear hb hbox hg) | ((with_reducible refine gate_dst (N := 2) rfl ?_); refine bxE (N := 2) (cs := #[.string ⟨#[]⟩, .int .i64 0]) (t := 75) ?_; intro gb281 hg w33 hbox hb; have BK281 := As_ (hbox); have GW281 := As_ ((by rw [hg]; exact (below_size ap62_) : w.heap.size ≤ gb281)); have GE281 := As_ ((by rw [hg]; exact (below_size ap62_) : w.heap.size ≤ gb281)); replace HB := As_ (below_step ap62_ hb); have NB280_281 := As_ ((by rw [hg]; exact Nat.ne_of_lt (blk_lt (g := gb280) (o := .cells #[.string a0_0, .int .i64 a0_1] 75 (0, 0)) ap36_) : gb280 ≠ gb281)); have NB281_280 := As_ ((by rw [hg]; exact Nat.ne_of_gt (blk_lt (g := gb280) (o := .cells #[.string a0_0, .int .i64 a0_1] 75 (0, 0)) ap36_) : gb281 ≠ gb280)); replace BK280 := As_ (blk_below (g := gb280) (o := .cells #[.string a0_0, .int .i64 a0_1] 75 (0, 0)) ap36_ hb); clear hb hbox hg; have hnb34 := NB280_281.out; have hnc34 := NB281_280.out; obtain ⟨hcz35_0, hfz35_0, hcz35_1, hfz35_1⟩ := clN2 BK280.out) | ((with_reducible refine gate_callee (f := 75) rfl ?_); refine gk_ (some 8) Tryz.func75 #[.agg #[.string a0_0, .int .i64 a0_1]] ?_; (with_reducible refine (footbridgeref01_R_Num.calls k a0_0 a0_1 t282 t283 t284 _ A2.out).mono ?_); rintro e w36 ⟨rfl, hb⟩; refine ⟨_, rfl, ?_⟩; replace BK280 := As_ (blk_below (g := gb280) (o := .cells #[.string a0_0, .int .i64 a0_1] 75 (0, 0)) ap36_ hb); replace BK281 := As_ (blk_below (g := gb281) (o := .cells #[.string ⟨#[]⟩, .int .i64 0] 75 (0, 0)) ap39_ hb); replace HB := As_ (below_step ap74_ hb); (try clear hb); (try clear hb2); (try clear hk); (try clear hi)) | ((with_reducible refine gate_dst (N := 4) rfl ?_); refine bxE (N := 4) (cs := #[.string ⟨#[]⟩, .int .i64 0]) (t := 75) ?_; intro gb285 hg w37 hbox hb; have BK285 := As_ (hbox); have GW285 := As_ ((by rw [hg]; exact (below_size ap74_) : w.heap.size ≤ gb285)); have GE285 := As_ ((by rw [hg]; exact (below_size ap74_) : w.heap.size ≤ gb285)); replace HB := As_ (below_step ap74_ hb); have NB280_285 := As_ ((by rw [hg]; exact Nat.ne_of_lt (blk_lt (g := gb280) (o := .cells #[.string a0_0, .int .i64 a0_1] 75 (0, 0)) ap36_) : gb280 ≠ gb285)); have NB285_280 := As_ ((by rw [hg]; exact Nat.ne_of_gt (blk_lt (g := gb280) (o := .cells #[.string a0_0, .int .i64 a0_1] 75 (0, 0)) ap36_) : gb285 ≠ gb280)); replace BK280 := As_ (blk_below (g := gb280) (o := .cells #[.string a0_0, .int .i64 a0_1] 75 (0, 0)) ap36_ hb); have NB281_285 := As_ ((by rw [hg]; exact Nat.ne_of_lt (blk_lt (g := gb281) (o := .cells #[.string ⟨#[]⟩, .int .i64 0] 75 (0, 0)) ap39_) : gb281 ≠ gb285)); have NB285_281 := As_ ((by rw [hg]; exact Nat.ne_of_gt (blk_lt (g := gb281) (o := .cells #[.string ⟨#[]⟩, .int .i64 0] 75 (0, 0)) ap39_) : gb285 ≠ gb281)); replace BK281 := As_ (blk_below (g := gb281) (o := .cells #[.string ⟨#[]⟩, .int .i64 0] 75 (0, 0)) ap39_ hb); clear hb hbox hg; have hnb38 := NB285_280.out; have hnc38 := NB280_285.out; have hnb39 := NB285_281.out; have hnc39 := NB281_285.out; obtain ⟨hcz40_0, hfz40_0, hcz40_1, hfz40_1⟩ := clN2 BK285.out))
      have n0_ : Aside0 (((w37.setCell ⟨gb285, 0, none⟩ (.string t282)).setCell ⟨gb285, 1, none⟩ (.int .i64 t283)).heap[gb280]? = some (.cells #[.string a0_0, .int .i64 a0_1] 75 (0, 0))) := ⟨by (with_reducible repeat (first | refine blk_drewN ?_ _ | refine blk_drew ?_ | refine blk_alloc ?_ _)); refine blk_far ?_ NB280_285.out _; (with_reducible repeat (first | refine blk_drewN ?_ _ | refine blk_drew ?_ | refine blk_alloc ?_ _)); refine blk_far ?_ NB280_285.out _; (with_reducible repeat (first | refine blk_drewN ?_ _ | refine blk_drew ?_ | refine blk_alloc ?_ _)); exact BK280.out⟩
      have n1_ : Aside0 (((w37.setCell ⟨gb285, 0, none⟩ (.string t282)).setCell ⟨gb285, 1, none⟩ (.int .i64 t283)).heap[gb281]? = some (.cells #[.string ⟨#[]⟩, .int .i64 0] 75 (0, 0))) := ⟨by (with_reducible repeat (first | refine blk_drewN ?_ _ | refine blk_drew ?_ | refine blk_alloc ?_ _)); refine blk_far ?_ NB281_285.out _; (with_reducible repeat (first | refine blk_drewN ?_ _ | refine blk_drew ?_ | refine blk_alloc ?_ _)); refine blk_far ?_ NB281_285.out _; (with_reducible repeat (first | refine blk_drewN ?_ _ | refine blk_drew ?_ | refine blk_alloc ?_ _)); exact BK281.out⟩
      have n2_ : Aside0 (((w37.setCell ⟨gb285, 0, none⟩ (.string t282)).setCell ⟨gb285, 1, none⟩ (.int .i64 t283)).heap[gb285]? = some (.cells #[.string t282, .int .i64 t283] 75 (0, 0))) := ⟨by (with_reducible repeat (first | refine blk_drewN ?_ _ | refine blk_drew ?_ | refine blk_alloc ?_ _)); refine blk_put (cs := #[.string t282, .int .i64 0]) ?_ 1 _ rfl; (with_reducible repeat (first | refine blk_drewN ?_ _ | refine blk_drew ?_ | refine blk_alloc ?_ _)); refine blk_put (cs := #[.string ⟨#[]⟩, .int .i64 0]) ?_ 0 _ rfl; (with_reducible repeat (first | refine blk_drewN ?_ _ | refine blk_drew ?_ | refine blk_alloc ?_ _)); exact BK285.out⟩
      have n3_ : Aside0 (Below w.heap.size w ((w37.setCell ⟨gb285, 0, none⟩ (.string t282)).setCell ⟨gb285, 1, none⟩ (.int .i64 t283))) := ⟨ap81_⟩
      (try clear BK280)
      (try clear BK281)
      (try clear BK285)
      (try clear HB)
      generalize ((w37.setCell ⟨gb285, 0, none⟩ (.string t282)).setCell ⟨gb285, 1, none⟩ (.int .i64 t283)) = w41 at n0_ n1_ n2_ n3_ ⊢
      have BK280 := n0_
      have BK281 := n1_
      have BK285 := n2_
      have HB := n3_
      clear n0_ n1_ n2_ n3_
      replace BK280 := As_ (blk_drew BK280.out)
      replace BK281 := As_ (blk_drew BK281.out)
      replace BK285 := As_ (blk_drew BK285.out)
      replace HB := As_ (below_drew1 HB.out)
      refine start_ (n := 11) (S := fun w' => w'.cell? ⟨gb285, 0, none⟩ = some (.string t282) ∧ w'.cell? ⟨gb285, 1, none⟩ = some (.int .i64 t283)) (ds := []) #[false, false, false, false, false, false, false, false, false, false, false] (by kernel_rfl) rfl rfl ⟨(blk_cell BK285.out 0).trans rfl, (blk_cell BK285.out 1).trans rfl⟩ (fun hHeld => ?_); refine with_tabW footbridgeref01_R_Text.tab8 footbridgeref01_R_Text.bits8 (fun HT_ HW_ => ?_)
      generalize w41.drew = w42 at BK280 BK281 BK285 HB hHeld ⊢
      refine pure_ (i := 0) (N := some 28) #[true, false, false, false, false, false, false, false, false, false, false] rfl rfl (any_of HT_.out (by kernel_rfl)) (fun _ _ _ h => h) (Or.inl ⟨by rfl, ap2_⟩) ap35_ ?_
      refine pure_ (i := 2) (N := some 30) #[true, false, true, false, false, false, false, false, false, false, false] rfl rfl (any_of HT_.out (by kernel_rfl)) (fun _ _ _ h => h) (Or.inl ⟨by rfl, ap2_⟩) ap35_ ?_
      refine pure_ (i := 5) (N := some 33) #[true, false, true, false, false, true, false, false, false, false, false] rfl rfl (any_of HT_.out (by kernel_rfl)) (fun _ _ _ h => h) (Or.inl ⟨by rfl, ap2_⟩) ap35_ ?_
      refine pure_ (i := 7) (N := some 35) #[true, false, true, false, false, true, false, true, false, false, false] rfl rfl (any_of HT_.out (by kernel_rfl)) (fun _ _ _ h => h) (Or.inl ⟨by rfl, ap2_⟩) ap35_ ?_
      refine take_ (i := 1) (N := some 29) #[true, true, true, false, false, true, false, true, false, false, false] rfl rfl (take_ofW HT_.out HW_.out (by kernel_rfl)) (fun _ _ _ h => h) (Or.inl ⟨by rfl, ap6_⟩) hHeld ap35_ ?_
      refine pure_ (i := 3) (N := some 31) #[true, true, true, true, false, true, false, true, false, false, false] rfl rfl (any_of HT_.out (by kernel_rfl)) (fun _ _ _ h => h) (Or.inl ⟨by rfl, ap2_⟩) ap35_ ?_
      refine pure_ (i := 4) (N := some 32) #[true, true, true, true, true, true, false, true, false, false, false] rfl rfl (any_of HT_.out (by kernel_rfl)) (fun _ _ _ h => h) (Or.inl ⟨by rfl, ap2_⟩) ap35_ ?_
      refine take_ (i := 6) (N := some 34) #[true, true, true, true, true, true, true, true, false, false, false] rfl rfl (take_ofW HT_.out HW_.out (by kernel_rfl)) (fun _ _ _ h => h) (Or.inl ⟨by rfl, ap6_⟩) hHeld ap35_ ?_
      refine pure_ (i := 8) (N := some 36) #[true, true, true, true, true, true, true, true, true, false, false] rfl rfl (any_of HT_.out (by kernel_rfl)) (fun _ _ _ h => h) (Or.inl ⟨by rfl, ap2_⟩) ap35_ ?_
      refine one_ (i := 9) (N := none) #[true, true, true, true, true, true, true, true, true, true, false] rfl rfl (one_of HT_.out (by kernel_rfl)) (by decide) (fun K hK => ?_)
      have hs43 : w42.cell? ⟨gb281, 0, none⟩ = some (.string ⟨#[]⟩) := (blk_cell BK281.out 0).trans rfl
      have hfs43 := blk_frozen BK281.out 0
      have hns43_0 := NB280_281.out
      have hns43_2 := NB285_281.out
      have hms43_0 := NB281_280.out
      have hms43_2 := NB281_285.out
      have hs44 : w42.cell? ⟨gb281, 1, none⟩ = some (.int .i64 0) := (blk_cell BK281.out 1).trans rfl
      have hfs44 := blk_frozen BK281.out 1
      have hns44_0 := NB280_281.out
      have hns44_2 := NB285_281.out
      have hms44_0 := NB281_280.out
      have hms44_2 := NB281_285.out
      refine skip_ (w1 := ?_) (by rfl) rfl ?_ ?_
      rotate_left
      ·go_simp
       rfl
      refine hK.out _ _ ⟨((cell_far (p := ⟨gb281, _, none⟩) NB285_281.out _).trans (((cell_far (p := ⟨gb281, _, none⟩) NB285_281.out _).trans (hHeld.1)))), ((cell_far (p := ⟨gb281, _, none⟩) NB285_281.out _).trans (((cell_far (p := ⟨gb281, _, none⟩) NB285_281.out _).trans (hHeld.2))))⟩ (fun hHeld => ?_)
      clear hK K
      refine pure_ (i := 10) (N := some 3) #[true, true, true, true, true, true, true, true, true, true, true] rfl rfl (any_of HT_.out (by kernel_rfl)) (fun _ _ _ h => h) (Or.inl ⟨by rfl, ap2_⟩) ap35_ ?_
      refine done_ (done_of HT_.out (by kernel_rfl)) ?_
      try go_wp2
      refine bodyPost_ret (results_ct rfl _ _ gb281 75 #[.string (t282.extract (t284 : Int).toNat t282.size), .int .i64 0] (0, 0) _ rfl (by (with_reducible repeat (first | refine blk_drewN ?_ _ | refine blk_drew ?_ | refine blk_alloc ?_ _)); refine blk_put (cs := #[.string (t282.extract (t284 : Int).toNat t282.size), .int .i64 0]) ?_ 1 _ rfl; (with_reducible repeat (first | refine blk_drewN ?_ _ | refine blk_drew ?_ | refine blk_alloc ?_ _)); refine blk_put (cs := #[.string ⟨#[]⟩, .int .i64 0]) ?_ 0 _ rfl; (with_reducible repeat (first | refine blk_drewN ?_ _ | refine blk_drew ?_ | refine blk_alloc ?_ _)); exact BK281.out) Tryz.underlying75 rfl (by kernel_rfl)) rfl ?_
      exact ⟨ap17_, ap81_⟩
     ·rw [if_neg c29] at H
      exact absurd H (by simp)
    ·rw [if_neg c28] at H
     exact absurd H (by simp)
 ·rw [if_neg c3] at H
  have c3b0 : (t283 == 0) = false := beq_eq_false_iff_ne.mpr c3
  have c3b1 : (t283 != 0) = true := bne_iff_ne.mpr c3
  simp only [Option.some.injEq, Prod.mk.injEq] at H
  obtain ⟨rfl, rfl, rfl⟩ := H
  go_enter Tryz.func42, Tryz.ntmps42
  go_wp2_with (first | ((with_reducible refine gate_dst (N := 1) rfl ?_); refine bxE (N := 1) (cs := #[.string a0_0, .int .i64 a0_1]) (t := 75) ?_; intro gb280 hg w45 hbox hb; have BK280 := As_ (hbox); have GW280 := As_ ((by rw [hg]; exact (below_size ap50_) : w.heap.size ≤ gb280)); have GE280 := As_ ((by rw [hg]; exact (below_size ap50_) : w.heap.size ≤ gb280)); replace HB := As_ (below_step ap50_ hb); clear hb hbox hg) | ((with_reducible refine gate_dst (N := 2) rfl ?_); refine bxE (N := 2) (cs := #[.string ⟨#[]⟩, .int .i64 0]) (t := 75) ?_; intro gb281 hg w46 hbox hb; have BK281 := As_ (hbox); have GW281 := As_ ((by rw [hg]; exact (below_size ap62_) : w.heap.size ≤ gb281)); have GE281 := As_ ((by rw [hg]; exact (below_size ap62_) : w.heap.size ≤ gb281)); replace HB := As_ (below_step ap62_ hb); have NB280_281 := As_ ((by rw [hg]; exact Nat.ne_of_lt (blk_lt (g := gb280) (o := .cells #[.string a0_0, .int .i64 a0_1] 75 (0, 0)) ap36_) : gb280 ≠ gb281)); have NB281_280 := As_ ((by rw [hg]; exact Nat.ne_of_gt (blk_lt (g := gb280) (o := .cells #[.string a0_0, .int .i64 a0_1] 75 (0, 0)) ap36_) : gb281 ≠ gb280)); replace BK280 := As_ (blk_below (g := gb280) (o := .cells #[.string a0_0, .int .i64 a0_1] 75 (0, 0)) ap36_ hb); clear hb hbox hg; have hnb47 := NB280_281.out; have hnc47 := NB281_280.out; obtain ⟨hcz48_0, hfz48_0, hcz48_1, hfz48_1⟩ := clN2 BK280.out) | ((with_reducible refine gate_callee (f := 75) rfl ?_); refine gk_ (some 8) Tryz.func75 #[.agg #[.string a0_0, .int .i64 a0_1]] ?_; (with_reducible refine (footbridgeref01_R_Num.calls k a0_0 a0_1 t282 t283 t284 _ A2.out).mono ?_); rintro e w49 ⟨rfl, hb⟩; refine ⟨_, rfl, ?_⟩; replace BK280 := As_ (blk_below (g := gb280) (o := .cells #[.string a0_0, .int .i64 a0_1] 75 (0, 0)) ap36_ hb); replace BK281 := As_ (blk_below (g := gb281) (o := .cells #[.string ⟨#[]⟩, .int .i64 0] 75 (0, 0)) ap39_ hb); replace HB := As_ (below_step ap74_ hb); (try clear hb); (try clear hb2); (try clear hk); (try clear hi)) | ((with_reducible refine gate_dst (N := 4) rfl ?_); refine bxE (N := 4) (cs := #[.string ⟨#[]⟩, .int .i64 0]) (t := 75) ?_; intro gb285 hg w50 hbox hb; have BK285 := As_ (hbox); have GW285 := As_ ((by rw [hg]; exact (below_size ap74_) : w.heap.size ≤ gb285)); have GE285 := As_ ((by rw [hg]; exact (below_size ap74_) : w.heap.size ≤ gb285)); replace HB := As_ (below_step ap74_ hb); have NB280_285 := As_ ((by rw [hg]; exact Nat.ne_of_lt (blk_lt (g := gb280) (o := .cells #[.string a0_0, .int .i64 a0_1] 75 (0, 0)) ap36_) : gb280 ≠ gb285)); have NB285_280 := As_ ((by rw [hg]; exact Nat.ne_of_gt (blk_lt (g := gb280) (o := .cells #[.string a0_0, .int .i64 a0_1] 75 (0, 0)) ap36_) : gb285 ≠ gb280)); replace BK280 := As_ (blk_below (g := gb280) (o := .cells #[.string a0_0, .int .i64 a0_1] 75 (0, 0)) ap36_ hb); have NB281_285 := As_ ((by rw [hg]; exact Nat.ne_of_lt (blk_lt (g := gb281) (o := .cells #[.string ⟨#[]⟩, .int .i64 0] 75 (0, 0)) ap39_) : gb281 ≠ gb285)); have NB285_281 := As_ ((by rw [hg]; exact Nat.ne_of_gt (blk_lt (g := gb281) (o := .cells #[.string ⟨#[]⟩, .int .i64 0] 75 (0, 0)) ap39_) : gb285 ≠ gb281)); replace BK281 := As_ (blk_below (g := gb281) (o := .cells #[.string ⟨#[]⟩, .int .i64 0] 75 (0, 0)) ap39_ hb); clear hb hbox hg; have hnb51 := NB285_280.out; have hnc51 := NB280_285.out; have hnb52 := NB285_281.out; have hnc52 := NB281_285.out; obtain ⟨hcz53_0, hfz53_0, hcz53_1, hfz53_1⟩ := clN2 BK285.out; obtain ⟨hcz54_0, hfz54_0, hcz54_1, hfz54_1⟩ := clN2 BK281.out))
  refine bodyPost_ret (results_ct rfl _ _ gb281 75 #[.string t282, .int .i64 t283] (0, 0) _ rfl (by (with_reducible repeat (first | refine blk_drewN ?_ _ | refine blk_drew ?_ | refine blk_alloc ?_ _)); refine blk_put (cs := #[.string t282, .int .i64 0]) ?_ 1 _ rfl; (with_reducible repeat (first | refine blk_drewN ?_ _ | refine blk_drew ?_ | refine blk_alloc ?_ _)); refine blk_put (cs := #[.string ⟨#[]⟩, .int .i64 0]) ?_ 0 _ rfl; (with_reducible repeat (first | refine blk_drewN ?_ _ | refine blk_drew ?_ | refine blk_alloc ?_ _)); refine blk_far ?_ NB281_285.out _; (with_reducible repeat (first | refine blk_drewN ?_ _ | refine blk_drew ?_ | refine blk_alloc ?_ _)); refine blk_far ?_ NB281_285.out _; (with_reducible repeat (first | refine blk_drewN ?_ _ | refine blk_drew ?_ | refine blk_alloc ?_ _)); exact BK281.out) Tryz.underlying75 rfl (by kernel_rfl)) rfl ?_
  exact ⟨ap17_, ap81_⟩
def footbridgeref01_R_Done.f (a0_0 : ByteArray) (a0_1 : Int) : Option (Int) := if a0_1 = 0 then (if a0_0.toList = ([] : List UInt8) then (some a0_1) else (some 6)) else (some a0_1)
theorem footbridgeref01_R_Done.calls (a0_0 : ByteArray) (a0_1 : Int) (r : Int) (w : World) (h : footbridgeref01_R_Done.f a0_0 a0_1 = some r) :
  Calls Tryz.prog 43 #[.agg #[.string a0_0, .int .i64 a0_1]] w fun e w' => e = .returned (.int .i64 r) ∧ Below w.heap.size w w' := by
 have hu75 := Tryz.underlying75
 have HB := As_ (Below.refl w.heap.size w)
 have H : (if a0_1 = 0 then (if a0_0.toList = ([] : List UInt8) then (some a0_1) else (some 6)) else (some a0_1)) = some r := h
 clear h
 by_cases c2 : a0_1 = 0
 ·rw [if_pos c2] at H
  have c2b0 : (a0_1 == 0) = true := beq_iff_eq.mpr c2
  have c2b1 : (a0_1 != 0) = false := bne_eq_false_iff_eq.mpr c2
  clear c2
  by_cases c3 : a0_0.toList = ([] : List UInt8)
  ·rw [if_pos c3] at H
   have c3b0 : (a0_0.toList == ([] : List UInt8)) = true := beq_iff_eq.mpr c3
   have c3b1 : (a0_0.toList != ([] : List UInt8)) = false := bne_eq_false_iff_eq.mpr c3
   clear c3
   obtain rfl := Option.some.inj H
   go_enter Tryz.func43, Tryz.ntmps43
   go_wp2_with (first | ((with_reducible refine gate_dst (N := 1) rfl ?_); refine bxE (N := 1) (cs := #[.string a0_0, .int .i64 a0_1]) (t := 75) ?_; intro gb286 hg w4 hbox hb; have BK286 := As_ (hbox); have GW286 := As_ ((by rw [hg]; exact (below_size ap50_) : w.heap.size ≤ gb286)); have GE286 := As_ ((by rw [hg]; exact (below_size ap50_) : w.heap.size ≤ gb286)); replace HB := As_ (below_step ap50_ hb); clear hb hbox hg; obtain ⟨hcz5_0, hfz5_0, hcz5_1, hfz5_1⟩ := clN2 BK286.out))
   go_ret
   exact ⟨ap17_, ap70_⟩
  ·rw [if_neg c3] at H
   have c3b0 : (a0_0.toList == ([] : List UInt8)) = false := beq_eq_false_iff_ne.mpr c3
   have c3b1 : (a0_0.toList != ([] : List UInt8)) = true := bne_iff_ne.mpr c3
   obtain rfl := Option.some.inj H
   go_enter Tryz.func43, Tryz.ntmps43
   go_wp2_with (first | ((with_reducible refine gate_dst (N := 1) rfl ?_); refine bxE (N := 1) (cs := #[.string a0_0, .int .i64 a0_1]) (t := 75) ?_; intro gb286 hg w6 hbox hb; have BK286 := As_ (hbox); have GW286 := As_ ((by rw [hg]; exact (below_size ap50_) : w.heap.size ≤ gb286)); have GE286 := As_ ((by rw [hg]; exact (below_size ap50_) : w.heap.size ≤ gb286)); replace HB := As_ (below_step ap50_ hb); clear hb hbox hg; obtain ⟨hcz7_0, hfz7_0, hcz7_1, hfz7_1⟩ := clN2 BK286.out))
   go_ret
   exact ⟨ap17_, ap70_⟩
 ·rw [if_neg c2] at H
  have c2b0 : (a0_1 == 0) = false := beq_eq_false_iff_ne.mpr c2
  have c2b1 : (a0_1 != 0) = true := bne_iff_ne.mpr c2
  obtain rfl := Option.some.inj H
  go_enter Tryz.func43, Tryz.ntmps43
  go_wp2_with (first | ((with_reducible refine gate_dst (N := 1) rfl ?_); refine bxE (N := 1) (cs := #[.string a0_0, .int .i64 a0_1]) (t := 75) ?_; intro gb286 hg w8 hbox hb; have BK286 := As_ (hbox); have GW286 := As_ ((by rw [hg]; exact (below_size ap50_) : w.heap.size ≤ gb286)); have GE286 := As_ ((by rw [hg]; exact (below_size ap50_) : w.heap.size ≤ gb286)); replace HB := As_ (below_step ap50_ hb); clear hb hbox hg; obtain ⟨hcz9_0, hfz9_0, hcz9_1, hfz9_1⟩ := clN2 BK286.out))
  go_ret
  exact ⟨ap17_, ap70_⟩
def footbridgeref23_Get.f (k : Nat) (l0 : List (S82)) (a1 : ByteArray) (a2 : ByteArray) : Option (ByteArray × ByteArray × ByteArray × ByteArray × ByteArray × Int) := (footbridgeref23_key.f k a1 a2).bind fun t288 => ((footbridgeref09_Get.f k l0 t288).bind fun bt289 => ((footbridgeref01_R_Text.f k bt289.1 0).bind fun bt293 => ((footbridgeref01_R_Text.f k bt293.1 bt293.2.1).bind fun bt296 => ((footbridgeref01_R_Text.f k bt296.1 bt296.2.1).bind fun bt299 => (if bt289.2 = true then ((footbridgeref01_R_Done.f bt299.1 bt299.2.1).bind fun t302 => (if t302 = 0 then (some (a1, a2, bt293.2.2, bt296.2.2, bt299.2.2, 0)) else (some ((⟨#[]⟩ : ByteArray), (⟨#[]⟩ : ByteArray), (⟨#[]⟩ : ByteArray), (⟨#[]⟩ : ByteArray), (⟨#[]⟩ : ByteArray), 8)))) else (some ((⟨#[]⟩ : ByteArray), (⟨#[]⟩ : ByteArray), (⟨#[]⟩ : ByteArray), (⟨#[]⟩ : ByteArray), (⟨#[]⟩ : ByteArray), 8)))))))
theorem footbridgeref23_Get.mono : ∀ a0 a1 a2 k, LeO (footbridgeref23_Get.f k a0 a1 a2) (footbridgeref23_Get.f (k + 1) a0 a1 a2) := by
 intro a0 a1 a2 k
 unfold footbridgeref23_Get.f
 repeat' first
   | (with_reducible exact footbridgeref01_R_Text.mono _ _ _)
   | (with_reducible exact footbridgeref09_Get.mono _ _ _)
   | (with_reducible exact footbridgeref23_key.mono _ _ _)
   | (with_reducible exact LeO.refl _)
   | (with_reducible exact LeO.none _)
   | (with_reducible refine LeO.ite ?_ ?_)
   | (with_reducible refine LeO.bind ?_ (fun _ => ?_))
   | exact footbridgeref01_R_Text.mono _ _ _
   | exact footbridgeref09_Get.mono _ _ _
   | exact footbridgeref23_key.mono _ _ _
   | exact LeO.none _
   | refine LeO.ite ?_ ?_
   | refine LeO.bind ?_ (fun _ => ?_)
theorem footbridgeref23_Get.calls (k : Nat) (A0 : Option Addr) (c0 : Nat) (l0 : List (S82)) (a1 : ByteArray) (a2 : ByteArray) (r1 : ByteArray) (r2 : ByteArray) (r3 : ByteArray) (r4 : ByteArray) (r5 : ByteArray) (r6 : Int) (w : World) (hr0 : Kd.C k82 w A0 l0.length l0) (hc0 : l0.length ≤ c0) (h : footbridgeref23_Get.f k l0 a1 a2 = some (r1, r2, r3, r4, r5, r6)) :
  Calls Tryz.prog 14 #[.slice A0 l0.length c0, .string a1, .string a2] w fun e w' => e = .returned (.tuple #[.agg #[.string r1, .string r2, .string r3, .string r4, .string r5], .int .i64 r6]) ∧ Below w.heap.size w w' := by
 have hu23 := Tryz.underlying23
 have hu75 := Tryz.underlying75
 have HR0 := As_ hr0
 have HC0 := As_ hc0
 clear hr0 hc0
 have HB := As_ (Below.refl w.heap.size w)
 have H : ((footbridgeref23_key.f k a1 a2).bind fun t288 => ((footbridgeref09_Get.f k l0 t288).bind fun bt289 => ((footbridgeref01_R_Text.f k bt289.1 0).bind fun bt293 => ((footbridgeref01_R_Text.f k bt293.1 bt293.2.1).bind fun bt296 => ((footbridgeref01_R_Text.f k bt296.1 bt296.2.1).bind fun bt299 => (if bt289.2 = true then ((footbridgeref01_R_Done.f bt299.1 bt299.2.1).bind fun t302 => (if t302 = 0 then (some (a1, a2, bt293.2.2, bt296.2.2, bt299.2.2, 0)) else (some ((⟨#[]⟩ : ByteArray), (⟨#[]⟩ : ByteArray), (⟨#[]⟩ : ByteArray), (⟨#[]⟩ : ByteArray), (⟨#[]⟩ : ByteArray), 8)))) else (some ((⟨#[]⟩ : ByteArray), (⟨#[]⟩ : ByteArray), (⟨#[]⟩ : ByteArray), (⟨#[]⟩ : ByteArray), (⟨#[]⟩ : ByteArray), 8)))))))) = some (r1, r2, r3, r4, r5, r6) := h
 clear h
 replace H := Option.bind_eq_some_iff.mp H
 obtain ⟨t288, A40, H⟩ := H
 try dsimp only at H
 have A4 := As_ A40
 clear A40
 replace H := Option.bind_eq_some_iff.mp H
 obtain ⟨⟨t289, t290⟩, A50, H⟩ := H
 try dsimp only at H
 have A5 := As_ A50
 clear A50
 replace H := Option.bind_eq_some_iff.mp H
 obtain ⟨⟨t293, t294, t295⟩, A60, H⟩ := H
 try dsimp only at H
 have A6 := As_ A60
 clear A60
 replace H := Option.bind_eq_some_iff.mp H
 obtain ⟨⟨t296, t297, t298⟩, A70, H⟩ := H
 try dsimp only at H
 have A7 := As_ A70
 clear A70
 replace H := Option.bind_eq_some_iff.mp H
 obtain ⟨⟨t299, t300, t301⟩, A80, H⟩ := H
 try dsimp only at H
 have A8 := As_ A80
 clear A80
 by_cases c9 : t290 = true
 ·subst c9
  have H1 : ((footbridgeref01_R_Done.f t299 t300).bind fun t302 => (if t302 = 0 then (some (a1, a2, t295, t298, t301, 0)) else (some ((⟨#[]⟩ : ByteArray), (⟨#[]⟩ : ByteArray), (⟨#[]⟩ : ByteArray), (⟨#[]⟩ : ByteArray), (⟨#[]⟩ : ByteArray), 8)))) = some (r1, r2, r3, r4, r5, r6) := by rw [if_pos rfl] at H; exact H
  clear H
  have H := H1
  clear H1
  replace H := Option.bind_eq_some_iff.mp H
  obtain ⟨t302, A100, H⟩ := H
  try dsimp only at H
  have A10 := As_ A100
  clear A100
  by_cases c11 : t302 = 0
  ·rw [if_pos c11] at H
   have c11b0 : (t302 == 0) = true := beq_iff_eq.mpr c11
   have c11b1 : (t302 != 0) = false := bne_eq_false_iff_eq.mpr c11
   clear c11
   simp only [Option.some.injEq, Prod.mk.injEq] at H
   obtain ⟨rfl, rfl, rfl, rfl, rfl, rfl⟩ := H
   go_enter Tryz.func14, Tryz.ntmps14
   go_wp2_with (first | ((with_reducible refine gate_dst (N := 6) rfl ?_); refine bxE (N := 6) (cs := #[.string ⟨#[]⟩, .string ⟨#[]⟩, .string ⟨#[]⟩, .string ⟨#[]⟩, .string ⟨#[]⟩]) (t := 23) ?_; intro gb287 hg w12 hbox hb; have BK287 := As_ (hbox); have GW287 := As_ ((by rw [hg]; exact (below_size ap50_) : w.heap.size ≤ gb287)); have GE287 := As_ ((by rw [hg]; exact (below_size ap50_) : w.heap.size ≤ gb287)); replace HB := As_ (below_step ap50_ hb); clear hb hbox hg) | ((with_reducible refine gate_callee (f := 41) rfl ?_); refine gk_ (some 19) Tryz.func41 #[.string a1, .string a2] ?_; (with_reducible refine (footbridgeref23_key.calls k a1 a2 t288 _ A4.out).mono ?_); rintro e w13 ⟨rfl, hb⟩; refine ⟨_, rfl, ?_⟩; replace BK287 := As_ (blk_below (g := gb287) (o := .cells #[.string ⟨#[]⟩, .string ⟨#[]⟩, .string ⟨#[]⟩, .string ⟨#[]⟩, .string ⟨#[]⟩] 23 (0, 0)) ap41_ hb); replace HB := As_ (below_step ap61_ hb); (try clear hb); (try clear hb2); (try clear hk); (try clear hi)) | ((with_reducible refine gate_callee (f := 40) rfl ?_); refine gk_ (some 20) Tryz.func40 #[.slice A0 l0.length c0, .string t288] ?_; (with_reducible refine (footbridgeref09_Get.calls k _ _ l0 t288 t289 true _ ?side1 ?side2 A5.out).mono ?_); (case side1 => repeat (first | exact (Kd.C_below HR0.out HB.out) | (with_reducible refine Kd.C_alloc ?_ _) | (with_reducible refine Kd.C_drewN ?_ _) | (with_reducible refine Kd.C_drew ?_))); (case side2 => exact HC0.out); rintro e w' ⟨rfl, ⟨nd, rfl⟩⟩; refine ⟨_, rfl, ?_⟩; (try (rw [drewN_self w13]; generalize hq_ : World.drewN w13 _ = w13; have n0_ : Aside0 (w13.heap[gb287]? = some (.cells #[.string ⟨#[]⟩, .string ⟨#[]⟩, .string ⟨#[]⟩, .string ⟨#[]⟩, .string ⟨#[]⟩] 23 (0, 0))) := ⟨by rw [← hq_]; exact ap41_⟩; have n1_ : Aside0 (Below w.heap.size w w13) := ⟨by rw [← hq_]; exact ap61_⟩; clear BK287 HB hq_; have BK287 := n0_; have HB := n1_; clear n0_ n1_))) | ((with_reducible refine gate_dst (N := 10) rfl ?_); refine bxE (N := 10) (cs := #[.string ⟨#[]⟩, .string ⟨#[]⟩, .string ⟨#[]⟩, .string ⟨#[]⟩, .string ⟨#[]⟩]) (t := 23) ?_; intro gb291 hg w14 hbox hb; have BK291 := As_ (hbox); have GW291 := As_ ((by rw [hg]; exact (below_size ap61_) : w.heap.size ≤ gb291)); have GE291 := As_ ((by rw [hg]; exact (below_size ap61_) : w.heap.size ≤ gb291)); replace HB := As_ (below_step ap61_ hb); have NB287_291 := As_ ((by rw [hg]; exact Nat.ne_of_lt (blk_lt (g := gb287) (o := .cells #[.string ⟨#[]⟩, .string ⟨#[]⟩, .string ⟨#[]⟩, .string ⟨#[]⟩, .string ⟨#[]⟩] 23 (0, 0)) ap41_) : gb287 ≠ gb291)); have NB291_287 := As_ ((by rw [hg]; exact Nat.ne_of_gt (blk_lt (g := gb287) (o := .cells #[.string ⟨#[]⟩, .string ⟨#[]⟩, .string ⟨#[]⟩, .string ⟨#[]⟩, .string ⟨#[]⟩] 23 (0, 0)) ap41_) : gb291 ≠ gb287)); replace BK287 := As_ (blk_below (g := gb287) (o := .cells #[.string ⟨#[]⟩, .string ⟨#[]⟩, .string ⟨#[]⟩, .string ⟨#[]⟩, .string ⟨#[]⟩] 23 (0, 0)) ap41_ hb); clear hb hbox hg; have hnb15 := NB291_287.out; have hnc15 := NB287_291.out; obtain ⟨hcz16_0, hfz16_0, hcz16_1, hfz16_1, hcz16_2, hfz16_2, hcz16_3, hfz16_3, hcz16_4, hfz16_4⟩ := clN5 BK291.out) | ((with_reducible refine gate_dst (N := 11) rfl ?_); refine bxE (N := 11) (cs := #[.string ⟨#[]⟩, .int .i64 0]) (t := 75) ?_; intro gb292 hg w17 hbox hb; have BK292 := As_ (hbox); have GW292 := As_ ((by rw [hg]; exact (below_size ap77_) : w.heap.size ≤ gb292)); have GE292 := As_ ((by rw [hg]; exact (below_size ap77_) : w.heap.size ≤ gb292)); replace HB := As_ (below_step ap77_ hb); have NB287_292 := As_ ((by rw [hg]; exact Nat.ne_of_lt (blk_lt (g := gb287) (o := .cells #[.string ⟨#[]⟩, .string ⟨#[]⟩, .string ⟨#[]⟩, .string ⟨#[]⟩, .string ⟨#[]⟩] 23 (0, 0)) ap108_) : gb287 ≠ gb292)); have NB292_287 := As_ ((by rw [hg]; exact Nat.ne_of_gt (blk_lt (g := gb287) (o := .cells #[.string ⟨#[]⟩, .string ⟨#[]⟩, .string ⟨#[]⟩, .string ⟨#[]⟩, .string ⟨#[]⟩] 23 (0, 0)) ap108_) : gb292 ≠ gb287)); replace BK287 := As_ (blk_below (g := gb287) (o := .cells #[.string ⟨#[]⟩, .string ⟨#[]⟩, .string ⟨#[]⟩, .string ⟨#[]⟩, .string ⟨#[]⟩] 23 (0, 0)) ap108_ hb); have NB291_292 := As_ ((by rw [hg]; exact Nat.ne_of_lt (blk_lt (g := gb291) (o := .cells #[.string a1, .string a2, .string ⟨#[]⟩, .string ⟨#[]⟩, .string ⟨#[]⟩] 23 (0, 0)) ap110_) : gb291 ≠ gb292)); have NB292_291 := As_ ((by rw [hg]; exact Nat.ne_of_gt (blk_lt (g := gb291) (o := .cells #[.string a1, .string a2, .string ⟨#[]⟩, .string ⟨#[]⟩, .string ⟨#[]⟩] 23 (0, 0)) ap110_) : gb292 ≠ gb291)); replace BK291 := As_ (blk_below (g := gb291) (o := .cells #[.string a1, .string a2, .string ⟨#[]⟩, .string ⟨#[]⟩, .string ⟨#[]⟩] 23 (0, 0)) ap110_ hb); clear hb hbox hg; have hnb18 := NB292_287.out; have hnc18 := NB287_292.out; have hnb19 := NB292_291.out; have hnc19 := NB291_292.out; obtain ⟨hcz20_0, hfz20_0, hcz20_1, hfz20_1⟩ := clN2 BK292.out) | ((with_reducible refine gate_callee (f := 42) rfl ?_); refine gk_ (some 30) Tryz.func42 #[.agg #[.string t289, .int .i64 0]] ?_; (with_reducible refine (footbridgeref01_R_Text.calls k t289 0 t293 t294 t295 _ A6.out).mono ?_); rintro e w21 ⟨rfl, hb⟩; refine ⟨_, rfl, ?_⟩; replace BK287 := As_ (blk_below (g := gb287) (o := .cells #[.string ⟨#[]⟩, .string ⟨#[]⟩, .string ⟨#[]⟩, .string ⟨#[]⟩, .string ⟨#[]⟩] 23 (0, 0)) ap85_ hb); replace BK291 := As_ (blk_below (g := gb291) (o := .cells #[.string a1, .string a2, .string ⟨#[]⟩, .string ⟨#[]⟩, .string ⟨#[]⟩] 23 (0, 0)) ap84_ hb); replace BK292 := As_ (blk_below (g := gb292) (o := .cells #[.string t289, .int .i64 0] 75 (0, 0)) ap89_ hb); replace HB := As_ (below_step ap80_ hb); (try clear hb); (try clear hb2); (try clear hk); (try clear hi); obtain ⟨hcz22_0, hfz22_0, hcz22_1, hfz22_1⟩ := clN2 BK292.out; obtain ⟨hcz23_0, hfz23_0, hcz23_1, hfz23_1, hcz23_2, hfz23_2, hcz23_3, hfz23_3, hcz23_4, hfz23_4⟩ := clN5 BK291.out) | ((with_reducible refine gate_callee (f := 42) rfl ?_); refine gk_ (some 37) Tryz.func42 #[.agg #[.string t293, .int .i64 t294]] ?_; (with_reducible refine (footbridgeref01_R_Text.calls k t293 t294 t296 t297 t298 _ A7.out).mono ?_); rintro e w24 ⟨rfl, hb⟩; refine ⟨_, rfl, ?_⟩; replace BK287 := As_ (blk_below (g := gb287) (o := .cells #[.string ⟨#[]⟩, .string ⟨#[]⟩, .string ⟨#[]⟩, .string ⟨#[]⟩, .string ⟨#[]⟩] 23 (0, 0)) ap92_ hb); replace BK291 := As_ (blk_below (g := gb291) (o := .cells #[.string a1, .string a2, .string t295, .string ⟨#[]⟩, .string ⟨#[]⟩] 23 (0, 0)) ap105_ hb); replace BK292 := As_ (blk_below (g := gb292) (o := .cells #[.string t293, .int .i64 t294] 75 (0, 0)) ap97_ hb); replace HB := As_ (below_step ap80_ hb); (try clear hb); (try clear hb2); (try clear hk); (try clear hi); obtain ⟨hcz25_0, hfz25_0, hcz25_1, hfz25_1⟩ := clN2 BK292.out; obtain ⟨hcz26_0, hfz26_0, hcz26_1, hfz26_1, hcz26_2, hfz26_2, hcz26_3, hfz26_3, hcz26_4, hfz26_4⟩ := clN5 BK291.out) | ((with_reducible refine gate_callee (f := 42) rfl ?_); refine gk_ (some 44) Tryz.func42 #[.agg #[.string t296, .int .i64 t297]] ?_; (with_reducible refine (footbridgeref01_R_Text.calls k t296 t297 t299 t300 t301 _ A8.out).mono ?_); rintro e w27 ⟨rfl, hb⟩; refine ⟨_, rfl, ?_⟩; replace BK287 := As_ (blk_below (g := gb287) (o := .cells #[.string ⟨#[]⟩, .string ⟨#[]⟩, .string ⟨#[]⟩, .string ⟨#[]⟩, .string ⟨#[]⟩] 23 (0, 0)) ap92_ hb); replace BK291 := As_ (blk_below (g := gb291) (o := .cells #[.string a1, .string a2, .string t295, .string t298, .string ⟨#[]⟩] 23 (0, 0)) ap104_ hb); replace BK292 := As_ (blk_below (g := gb292) (o := .cells #[.string t296, .int .i64 t297] 75 (0, 0)) ap100_ hb); replace HB := As_ (below_step ap80_ hb); (try clear hb); (try clear hb2); (try clear hk); (try clear hi); obtain ⟨hcz28_0, hfz28_0, hcz28_1, hfz28_1⟩ := clN2 BK292.out; obtain ⟨hcz29_0, hfz29_0, hcz29_1, hfz29_1, hcz29_2, hfz29_2, hcz29_3, hfz29_3, hcz29_4, hfz29_4⟩ := clN5 BK291.out) | (go_at_call 43; (with_reducible refine (footbridgeref01_R_Done.calls t299 t300 t302 _ A10.out).mono ?_); rintro e w30 ⟨rfl, hb⟩; replace BK287 := As_ (blk_below (g := gb287) (o := .cells #[.string ⟨#[]⟩, .string ⟨#[]⟩, .string ⟨#[]⟩, .string ⟨#[]⟩, .string ⟨#[]⟩] 23 (0, 0)) ap92_ hb); replace BK291 := As_ (blk_below (g := gb291) (o := .cells #[.string a1, .string a2, .string t295, .string t298, .string t301] 23 (0, 0)) ap103_ hb); replace BK292 := As_ (blk_below (g := gb292) (o := .cells #[.string t299, .int .i64 t300] 75 (0, 0)) ap102_ hb); replace HB := As_ (below_step ap80_ hb); (try clear hb); (try clear hb2); (try clear hk); (try clear hi); obtain ⟨hcz31_0, hfz31_0, hcz31_1, hfz31_1, hcz31_2, hfz31_2, hcz31_3, hfz31_3, hcz31_4, hfz31_4⟩ := clN5 BK291.out; obtain ⟨hcz32_0, hfz32_0, hcz32_1, hfz32_1, hcz32_2, hfz32_2, hcz32_3, hfz32_3, hcz32_4, hfz32_4⟩ := clN5 BK287.out))
   refine bodyPost_ret (results_ct rfl _ _ gb287 23 #[.string a1, .string a2, .string t295, .string t298, .string t301] (0, 0) _ rfl (by (with_reducible repeat (first | refine blk_drewN ?_ _ | refine blk_drew ?_ | refine blk_alloc ?_ _)); refine blk_put (cs := #[.string a1, .string a2, .string t295, .string t298, .string ⟨#[]⟩]) ?_ 4 _ rfl; (with_reducible repeat (first | refine blk_drewN ?_ _ | refine blk_drew ?_ | refine blk_alloc ?_ _)); refine blk_put (cs := #[.string a1, .string a2, .string t295, .string ⟨#[]⟩, .string ⟨#[]⟩]) ?_ 3 _ rfl; (with_reducible repeat (first | refine blk_drewN ?_ _ | refine blk_drew ?_ | refine blk_alloc ?_ _)); refine blk_put (cs := #[.string a1, .string a2, .string ⟨#[]⟩, .string ⟨#[]⟩, .string ⟨#[]⟩]) ?_ 2 _ rfl; (with_reducible repeat (first | refine blk_drewN ?_ _ | refine blk_drew ?_ | refine blk_alloc ?_ _)); refine blk_put (cs := #[.string a1, .string ⟨#[]⟩, .string ⟨#[]⟩, .string ⟨#[]⟩, .string ⟨#[]⟩]) ?_ 1 _ rfl; (with_reducible repeat (first | refine blk_drewN ?_ _ | refine blk_drew ?_ | refine blk_alloc ?_ _)); refine blk_put (cs := #[.string ⟨#[]⟩, .string ⟨#[]⟩, .string ⟨#[]⟩, .string ⟨#[]⟩, .string ⟨#[]⟩]) ?_ 0 _ rfl; (with_reducible repeat (first | refine blk_drewN ?_ _ | refine blk_drew ?_ | refine blk_alloc ?_ _)); exact BK287.out) Tryz.underlying23 rfl (by kernel_rfl)) rfl ?_
   exact ⟨ap17_, ap80_⟩
  ·rw [if_neg c11] at H
   have c11b0 : (t302 == 0) = false := beq_eq_false_iff_ne.mpr c11
   have c11b1 : (t302 != 0) = true := bne_iff_ne.mpr c11
   simp only [Option.some.injEq, Prod.mk.injEq] at H
   obtain ⟨rfl, rfl, rfl, rfl, rfl, rfl⟩ := H
   go_enter Tryz.func14, Tryz.ntmps14
   go_wp2_with (first | ((with_reducible refine gate_dst (N := 6) rfl ?_); refine bxE (N := 6) (cs := #[.string ⟨#[]⟩, .string ⟨#[]⟩, .string ⟨#[]⟩, .string ⟨#[]⟩, .string ⟨#[]⟩]) (t := 23) ?_; intro gb287 hg w33 hbox hb; have BK287 := As_ (hbox); have GW287 := As_ ((by rw [hg]; exact (below_size ap50_) : w.heap.size ≤ gb287)); have GE287 := As_ ((by rw [hg]; exact (below_size ap50_) : w.heap.size ≤ gb287)); replace HB := As_ (below_step ap50_ hb); clear hb hbox hg) | ((with_reducible refine gate_callee (f := 41) rfl ?_); refine gk_ (some 19) Tryz.func41 #[.string a1, .string a2] ?_; (with_reducible refine (footbridgeref23_key.calls k a1 a2 t288 _ A4.out).mono ?_); rintro e w34 ⟨rfl, hb⟩; refine ⟨_, rfl, ?_⟩; replace BK287 := As_ (blk_below (g := gb287) (o := .cells #[.string ⟨#[]⟩, .string ⟨#[]⟩, .string ⟨#[]⟩, .string ⟨#[]⟩, .string ⟨#[]⟩] 23 (0, 0)) ap41_ hb); replace HB := As_ (below_step ap61_ hb); (try clear hb); (try clear hb2); (try clear hk); (try clear hi)) | ((with_reducible refine gate_callee (f := 40) rfl ?_); refine gk_ (some 20) Tryz.func40 #[.slice A0 l0.length c0, .string t288] ?_; (with_reducible refine (footbridgeref09_Get.calls k _ _ l0 t288 t289 true _ ?side1 ?side2 A5.out).mono ?_); (case side1 => repeat (first | exact (Kd.C_below HR0.out HB.out) | (with_reducible refine Kd.C_alloc ?_ _) | (with_reducible refine Kd.C_drewN ?_ _) | (with_reducible refine Kd.C_drew ?_))); (case side2 => exact HC0.out); rintro e w' ⟨rfl, ⟨nd, rfl⟩⟩; refine ⟨_, rfl, ?_⟩; (try (rw [drewN_self w34]; generalize hq_ : World.drewN w34 _ = w34; have n0_ : Aside0 (w34.heap[gb287]? = some (.cells #[.string ⟨#[]⟩, .string ⟨#[]⟩, .string ⟨#[]⟩, .string ⟨#[]⟩, .string ⟨#[]⟩] 23 (0, 0))) := ⟨by rw [← hq_]; exact ap41_⟩; have n1_ : Aside0 (Below w.heap.size w w34) := ⟨by rw [← hq_]; exact ap61_⟩; clear BK287 HB hq_; have BK287 := n0_; have HB := n1_; clear n0_ n1_))) | ((with_reducible refine gate_dst (N := 10) rfl ?_); refine bxE (N := 10) (cs := #[.string ⟨#[]⟩, .string ⟨#[]⟩, .string ⟨#[]⟩, .string ⟨#[]⟩, .string ⟨#[]⟩]) (t := 23) ?_; intro gb291 hg w35 hbox hb; have BK291 := As_ (hbox); have GW291 := As_ ((by rw [hg]; exact (below_size ap61_) : w.heap.size ≤ gb291)); have GE291 := As_ ((by rw [hg]; exact (below_size ap61_) : w.heap.size ≤ gb291)); replace HB := As_ (below_step ap61_ hb); have NB287_291 := As_ ((by rw [hg]; exact Nat.ne_of_lt (blk_lt (g := gb287) (o := .cells #[.string ⟨#[]⟩, .string ⟨#[]⟩, .string ⟨#[]⟩, .string ⟨#[]⟩, .string ⟨#[]⟩] 23 (0, 0)) ap41_) : gb287 ≠ gb291)); have NB291_287 := As_ ((by rw [hg]; exact Nat.ne_of_gt (blk_lt (g := gb287) (o := .cells #[.string ⟨#[]⟩, .string ⟨#[]⟩, .string ⟨#[]⟩, .string ⟨#[]⟩, .string ⟨#[]⟩] 23 (0, 0)) ap41_) : gb291 ≠ gb287)); replace BK287 := As_ (blk_below (g := gb287) (o := .cells #[.string ⟨#[]⟩, .string ⟨#[]⟩, .string ⟨#[]⟩, .string ⟨#[]⟩, .string ⟨#[]⟩] 23 (0, 0)) ap41_ hb); clear hb hbox hg; have hnb36 := NB291_287.out; have hnc36 := NB287_291.out; obtain ⟨hcz37_0, hfz37_0, hcz37_1, hfz37_1, hcz37_2, hfz37_2, hcz37_3, hfz37_3, hcz37_4, hfz37_4⟩ := clN5 BK291.out) | ((with_reducible refine gate_dst (N := 11) rfl ?_); refine bxE (N := 11) (cs := #[.string ⟨#[]⟩, .int .i64 0]) (t := 75) ?_; intro gb292 hg w38 hbox hb; have BK292 := As_ (hbox); have GW292 := As_ ((by rw [hg]; exact (below_size ap77_) : w.heap.size ≤ gb292)); have GE292 := As_ ((by rw [hg]; exact (below_size ap77_) : w.heap.size ≤ gb292)); replace HB := As_ (below_step ap77_ hb); have NB287_292 := As_ ((by rw [hg]; exact Nat.ne_of_lt (blk_lt (g := gb287) (o := .cells #[.string ⟨#[]⟩, .string ⟨#[]⟩, .string ⟨#[]⟩, .string ⟨#[]⟩, .string ⟨#[]⟩] 23 (0, 0)) ap108_) : gb287 ≠ gb292)); have NB292_287 := As_ ((by rw [hg]; exact Nat.ne_of_gt (blk_lt (g := gb287) (o := .cells #[.string ⟨#[]⟩, .string ⟨#[]⟩, .string ⟨#[]⟩, .string ⟨#[]⟩, .string ⟨#[]⟩] 23 (0, 0)) ap108_) : gb292 ≠ gb287)); replace BK287 := As_ (blk_below (g := gb287) (o := .cells #[.string ⟨#[]⟩, .string ⟨#[]⟩, .string ⟨#[]⟩, .string ⟨#[]⟩, .string ⟨#[]⟩] 23 (0, 0)) ap108_ hb); have NB291_292 := As_ ((by rw [hg]; exact Nat.ne_of_lt (blk_lt (g := gb291) (o := .cells #[.string a1, .string a2, .string ⟨#[]⟩, .string ⟨#[]⟩, .string ⟨#[]⟩] 23 (0, 0)) ap110_) : gb291 ≠ gb292)); have NB292_291 := As_ ((by rw [hg]; exact Nat.ne_of_gt (blk_lt (g := gb291) (o := .cells #[.string a1, .string a2, .string ⟨#[]⟩, .string ⟨#[]⟩, .string ⟨#[]⟩] 23 (0, 0)) ap110_) : gb292 ≠ gb291)); replace BK291 := As_ (blk_below (g := gb291) (o := .cells #[.string a1, .string a2, .string ⟨#[]⟩, .string ⟨#[]⟩, .string ⟨#[]⟩] 23 (0, 0)) ap110_ hb); clear hb hbox hg; have hnb39 := NB292_287.out; have hnc39 := NB287_292.out; have hnb40 := NB292_291.out; have hnc40 := NB291_292.out; obtain ⟨hcz41_0, hfz41_0, hcz41_1, hfz41_1⟩ := clN2 BK292.out) | ((with_reducible refine gate_callee (f := 42) rfl ?_); refine gk_ (some 30) Tryz.func42 #[.agg #[.string t289, .int .i64 0]] ?_; (with_reducible refine (footbridgeref01_R_Text.calls k t289 0 t293 t294 t295 _ A6.out).mono ?_); rintro e w42 ⟨rfl, hb⟩; refine ⟨_, rfl, ?_⟩; replace BK287 := As_ (blk_below (g := gb287) (o := .cells #[.string ⟨#[]⟩, .string ⟨#[]⟩, .string ⟨#[]⟩, .string ⟨#[]⟩, .string ⟨#[]⟩] 23 (0, 0)) ap85_ hb); replace BK291 := As_ (blk_below (g := gb291) (o := .cells #[.string a1, .string a2, .string ⟨#[]⟩, .string ⟨#[]⟩, .string ⟨#[]⟩] 23 (0, 0)) ap84_ hb); replace BK292 := As_ (blk_below (g := gb292) (o := .cells #[.string t289, .int .i64 0] 75 (0, 0)) ap89_ hb); replace HB := As_ (below_step ap80_ hb); (try clear hb); (try clear hb2); (try clear hk); (try clear hi); obtain ⟨hcz43_0, hfz43_0, hcz43_1, hfz43_1⟩ := clN2 BK292.out; obtain ⟨hcz44_0, hfz44_0, hcz44_1, hfz44_1, hcz44_2, hfz44_2, hcz44_3, hfz44_3, hcz44_4, hfz44_4⟩ := clN5 BK291.out) | ((with_reducible refine gate_callee (f := 42) rfl ?_); refine gk_ (some 37) Tryz.func42 #[.agg #[.string t293, .int .i64 t294]] ?_; (with_reducible refine (footbridgeref01_R_Text.calls k t293 t294 t296 t297 t298 _ A7.out).mono ?_); rintro e w45 ⟨rfl, hb⟩; refine ⟨_, rfl, ?_⟩; replace BK287 := As_ (blk_below (g := gb287) (o := .cells #[.string ⟨#[]⟩, .string ⟨#[]⟩, .string ⟨#[]⟩, .string ⟨#[]⟩, .string ⟨#[]⟩] 23 (0, 0)) ap92_ hb); replace BK291 := As_ (blk_below (g := gb291) (o := .cells #[.string a1, .string a2, .string t295, .string ⟨#[]⟩, .string ⟨#[]⟩] 23 (0, 0)) ap105_ hb); replace BK292 := As_ (blk_below (g := gb292) (o := .cells #[.string t293, .int .i64 t294] 75 (0, 0)) ap97_ hb); replace HB := As_ (below_step ap80_ hb); (try clear hb); (try clear hb2); (try clear hk); (try clear hi); obtain ⟨hcz46_0, hfz46_0, hcz46_1, hfz46_1⟩ := clN2 BK292.out; obtain ⟨hcz47_0, hfz47_0, hcz47_1, hfz47_1, hcz47_2, hfz47_2, hcz47_3, hfz47_3, hcz47_4, hfz47_4⟩ := clN5 BK291.out) | ((with_reducible refine gate_callee (f := 42) rfl ?_); refine gk_ (some 44) Tryz.func42 #[.agg #[.string t296, .int .i64 t297]] ?_; (with_reducible refine (footbridgeref01_R_Text.calls k t296 t297 t299 t300 t301 _ A8.out).mono ?_); rintro e w48 ⟨rfl, hb⟩; refine ⟨_, rfl, ?_⟩; replace BK287 := As_ (blk_below (g := gb287) (o := .cells #[.string ⟨#[]⟩, .string ⟨#[]⟩, .string ⟨#[]⟩, .string ⟨#[]⟩, .string ⟨#[]⟩] 23 (0, 0)) ap92_ hb); replace BK291 := As_ (blk_below (g := gb291) (o := .cells #[.string a1, .string a2, .string t295, .string t298, .string ⟨#[]⟩] 23 (0, 0)) ap104_ hb); replace BK292 := As_ (blk_below (g := gb292) (o := .cells #[.string t296, .int .i64 t297] 75 (0, 0)) ap100_ hb); replace HB := As_ (below_step ap80_ hb); (try clear hb); (try clear hb2); (try clear hk); (try clear hi); obtain ⟨hcz49_0, hfz49_0, hcz49_1, hfz49_1⟩ := clN2 BK292.out; obtain ⟨hcz50_0, hfz50_0, hcz50_1, hfz50_1, hcz50_2, hfz50_2, hcz50_3, hfz50_3, hcz50_4, hfz50_4⟩ := clN5 BK291.out) | (go_at_call 43; (with_reducible refine (footbridgeref01_R_Done.calls t299 t300 t302 _ A10.out).mono ?_); rintro e w51 ⟨rfl, hb⟩; replace BK287 := As_ (blk_below (g := gb287) (o := .cells #[.string ⟨#[]⟩, .string ⟨#[]⟩, .string ⟨#[]⟩, .string ⟨#[]⟩, .string ⟨#[]⟩] 23 (0, 0)) ap92_ hb); replace BK291 := As_ (blk_below (g := gb291) (o := .cells #[.string a1, .string a2, .string t295, .string t298, .string t301] 23 (0, 0)) ap103_ hb); replace BK292 := As_ (blk_below (g := gb292) (o := .cells #[.string t299, .int .i64 t300] 75 (0, 0)) ap102_ hb); replace HB := As_ (below_step ap80_ hb); (try clear hb); (try clear hb2); (try clear hk); (try clear hi); obtain ⟨hcz52_0, hfz52_0, hcz52_1, hfz52_1, hcz52_2, hfz52_2, hcz52_3, hfz52_3, hcz52_4, hfz52_4⟩ := clN5 BK287.out))
   refine bodyPost_ret (results_ct rfl _ _ gb287 23 #[.string ⟨#[]⟩, .string ⟨#[]⟩, .string ⟨#[]⟩, .string ⟨#[]⟩, .string ⟨#[]⟩] (0, 0) _ rfl (by (with_reducible repeat (first | refine blk_drewN ?_ _ | refine blk_drew ?_ | refine blk_alloc ?_ _)); refine blk_put (cs := #[.string ⟨#[]⟩, .string ⟨#[]⟩, .string ⟨#[]⟩, .string ⟨#[]⟩, .string ⟨#[]⟩]) ?_ 4 _ rfl; (with_reducible repeat (first | refine blk_drewN ?_ _ | refine blk_drew ?_ | refine blk_alloc ?_ _)); refine blk_put (cs := #[.string ⟨#[]⟩, .string ⟨#[]⟩, .string ⟨#[]⟩, .string ⟨#[]⟩, .string ⟨#[]⟩]) ?_ 3 _ rfl; (with_reducible repeat (first | refine blk_drewN ?_ _ | refine blk_drew ?_ | refine blk_alloc ?_ _)); refine blk_put (cs := #[.string ⟨#[]⟩, .string ⟨#[]⟩, .string ⟨#[]⟩, .string ⟨#[]⟩, .string ⟨#[]⟩]) ?_ 2 _ rfl; (with_reducible repeat (first | refine blk_drewN ?_ _ | refine blk_drew ?_ | refine blk_alloc ?_ _)); refine blk_put (cs := #[.string ⟨#[]⟩, .string ⟨#[]⟩, .string ⟨#[]⟩, .string ⟨#[]⟩, .string ⟨#[]⟩]) ?_ 1 _ rfl; (with_reducible repeat (first | refine blk_drewN ?_ _ | refine blk_drew ?_ | refine blk_alloc ?_ _)); refine blk_put (cs := #[.string ⟨#[]⟩, .string ⟨#[]⟩, .string ⟨#[]⟩, .string ⟨#[]⟩, .string ⟨#[]⟩]) ?_ 0 _ rfl; (with_reducible repeat (first | refine blk_drewN ?_ _ | refine blk_drew ?_ | refine blk_alloc ?_ _)); exact BK287.out) Tryz.underlying23 rfl (by kernel_rfl)) rfl ?_
   exact ⟨ap17_, ap80_⟩
 ·replace c9 := Bool.eq_false_iff.mpr c9
  subst c9
  have H1 : (some ((⟨#[]⟩ : ByteArray), (⟨#[]⟩ : ByteArray), (⟨#[]⟩ : ByteArray), (⟨#[]⟩ : ByteArray), (⟨#[]⟩ : ByteArray), 8)) = some (r1, r2, r3, r4, r5, r6) := by rw [if_neg (show ¬ (false = true) by decide)] at H; exact H
  clear H
  have H := H1
  clear H1
  simp only [Option.some.injEq, Prod.mk.injEq] at H
  obtain ⟨rfl, rfl, rfl, rfl, rfl, rfl⟩ := H
  go_enter Tryz.func14, Tryz.ntmps14
  go_wp2_with (first | ((with_reducible refine gate_dst (N := 6) rfl ?_); refine bxE (N := 6) (cs := #[.string ⟨#[]⟩, .string ⟨#[]⟩, .string ⟨#[]⟩, .string ⟨#[]⟩, .string ⟨#[]⟩]) (t := 23) ?_; intro gb287 hg w53 hbox hb; have BK287 := As_ (hbox); have GW287 := As_ ((by rw [hg]; exact (below_size ap50_) : w.heap.size ≤ gb287)); have GE287 := As_ ((by rw [hg]; exact (below_size ap50_) : w.heap.size ≤ gb287)); replace HB := As_ (below_step ap50_ hb); clear hb hbox hg) | ((with_reducible refine gate_callee (f := 41) rfl ?_); refine gk_ (some 19) Tryz.func41 #[.string a1, .string a2] ?_; (with_reducible refine (footbridgeref23_key.calls k a1 a2 t288 _ A4.out).mono ?_); rintro e w54 ⟨rfl, hb⟩; refine ⟨_, rfl, ?_⟩; replace BK287 := As_ (blk_below (g := gb287) (o := .cells #[.string ⟨#[]⟩, .string ⟨#[]⟩, .string ⟨#[]⟩, .string ⟨#[]⟩, .string ⟨#[]⟩] 23 (0, 0)) ap41_ hb); replace HB := As_ (below_step ap61_ hb); (try clear hb); (try clear hb2); (try clear hk); (try clear hi)) | ((with_reducible refine gate_callee (f := 40) rfl ?_); refine gk_ (some 20) Tryz.func40 #[.slice A0 l0.length c0, .string t288] ?_; (with_reducible refine (footbridgeref09_Get.calls k _ _ l0 t288 t289 false _ ?side1 ?side2 A5.out).mono ?_); (case side1 => repeat (first | exact (Kd.C_below HR0.out HB.out) | (with_reducible refine Kd.C_alloc ?_ _) | (with_reducible refine Kd.C_drewN ?_ _) | (with_reducible refine Kd.C_drew ?_))); (case side2 => exact HC0.out); rintro e w' ⟨rfl, ⟨nd, rfl⟩⟩; refine ⟨_, rfl, ?_⟩; (try (rw [drewN_self w54]; generalize hq_ : World.drewN w54 _ = w54; have n0_ : Aside0 (w54.heap[gb287]? = some (.cells #[.string ⟨#[]⟩, .string ⟨#[]⟩, .string ⟨#[]⟩, .string ⟨#[]⟩, .string ⟨#[]⟩] 23 (0, 0))) := ⟨by rw [← hq_]; exact ap41_⟩; have n1_ : Aside0 (Below w.heap.size w w54) := ⟨by rw [← hq_]; exact ap61_⟩; clear BK287 HB hq_; have BK287 := n0_; have HB := n1_; clear n0_ n1_))) | ((with_reducible refine gate_dst (N := 10) rfl ?_); refine bxE (N := 10) (cs := #[.string ⟨#[]⟩, .string ⟨#[]⟩, .string ⟨#[]⟩, .string ⟨#[]⟩, .string ⟨#[]⟩]) (t := 23) ?_; intro gb291 hg w55 hbox hb; have BK291 := As_ (hbox); have GW291 := As_ ((by rw [hg]; exact (below_size ap61_) : w.heap.size ≤ gb291)); have GE291 := As_ ((by rw [hg]; exact (below_size ap61_) : w.heap.size ≤ gb291)); replace HB := As_ (below_step ap61_ hb); have NB287_291 := As_ ((by rw [hg]; exact Nat.ne_of_lt (blk_lt (g := gb287) (o := .cells #[.string ⟨#[]⟩, .string ⟨#[]⟩, .string ⟨#[]⟩, .string ⟨#[]⟩, .string ⟨#[]⟩] 23 (0, 0)) ap41_) : gb287 ≠ gb291)); have NB291_287 := As_ ((by rw [hg]; exact Nat.ne_of_gt (blk_lt (g := gb287) (o := .cells #[.string ⟨#[]⟩, .string ⟨#[]⟩, .string ⟨#[]⟩, .string ⟨#[]⟩, .string ⟨#[]⟩] 23 (0, 0)) ap41_) : gb291 ≠ gb287)); replace BK287 := As_ (blk_below (g := gb287) (o := .cells #[.string ⟨#[]⟩, .string ⟨#[]⟩, .string ⟨#[]⟩, .string ⟨#[]⟩, .string ⟨#[]⟩] 23 (0, 0)) ap41_ hb); clear hb hbox hg; have hnb56 := NB291_287.out; have hnc56 := NB287_291.out; obtain ⟨hcz57_0, hfz57_0, hcz57_1, hfz57_1, hcz57_2, hfz57_2, hcz57_3, hfz57_3, hcz57_4, hfz57_4⟩ := clN5 BK291.out) | ((with_reducible refine gate_dst (N := 11) rfl ?_); refine bxE (N := 11) (cs := #[.string ⟨#[]⟩, .int .i64 0]) (t := 75) ?_; intro gb292 hg w58 hbox hb; have BK292 := As_ (hbox); have GW292 := As_ ((by rw [hg]; exact (below_size ap77_) : w.heap.size ≤ gb292)); have GE292 := As_ ((by rw [hg]; exact (below_size ap77_) : w.heap.size ≤ gb292)); replace HB := As_ (below_step ap77_ hb); have NB287_292 := As_ ((by rw [hg]; exact Nat.ne_of_lt (blk_lt (g := gb287) (o := .cells #[.string ⟨#[]⟩, .string ⟨#[]⟩, .string ⟨#[]⟩, .string ⟨#[]⟩, .string ⟨#[]⟩] 23 (0, 0)) ap108_) : gb287 ≠ gb292)); have NB292_287 := As_ ((by rw [hg]; exact Nat.ne_of_gt (blk_lt (g := gb287) (o := .cells #[.string ⟨#[]⟩, .string ⟨#[]⟩, .string ⟨#[]⟩, .string ⟨#[]⟩, .string ⟨#[]⟩] 23 (0, 0)) ap108_) : gb292 ≠ gb287)); replace BK287 := As_ (blk_below (g := gb287) (o := .cells #[.string ⟨#[]⟩, .string ⟨#[]⟩, .string ⟨#[]⟩, .string ⟨#[]⟩, .string ⟨#[]⟩] 23 (0, 0)) ap108_ hb); have NB291_292 := As_ ((by rw [hg]; exact Nat.ne_of_lt (blk_lt (g := gb291) (o := .cells #[.string a1, .string a2, .string ⟨#[]⟩, .string ⟨#[]⟩, .string ⟨#[]⟩] 23 (0, 0)) ap110_) : gb291 ≠ gb292)); have NB292_291 := As_ ((by rw [hg]; exact Nat.ne_of_gt (blk_lt (g := gb291) (o := .cells #[.string a1, .string a2, .string ⟨#[]⟩, .string ⟨#[]⟩, .string ⟨#[]⟩] 23 (0, 0)) ap110_) : gb292 ≠ gb291)); replace BK291 := As_ (blk_below (g := gb291) (o := .cells #[.string a1, .string a2, .string ⟨#[]⟩, .string ⟨#[]⟩, .string ⟨#[]⟩] 23 (0, 0)) ap110_ hb); clear hb hbox hg; have hnb59 := NB292_287.out; have hnc59 := NB287_292.out; have hnb60 := NB292_291.out; have hnc60 := NB291_292.out; obtain ⟨hcz61_0, hfz61_0, hcz61_1, hfz61_1⟩ := clN2 BK292.out) | ((with_reducible refine gate_callee (f := 42) rfl ?_); refine gk_ (some 30) Tryz.func42 #[.agg #[.string t289, .int .i64 0]] ?_; (with_reducible refine (footbridgeref01_R_Text.calls k t289 0 t293 t294 t295 _ A6.out).mono ?_); rintro e w62 ⟨rfl, hb⟩; refine ⟨_, rfl, ?_⟩; replace BK287 := As_ (blk_below (g := gb287) (o := .cells #[.string ⟨#[]⟩, .string ⟨#[]⟩, .string ⟨#[]⟩, .string ⟨#[]⟩, .string ⟨#[]⟩] 23 (0, 0)) ap85_ hb); replace BK291 := As_ (blk_below (g := gb291) (o := .cells #[.string a1, .string a2, .string ⟨#[]⟩, .string ⟨#[]⟩, .string ⟨#[]⟩] 23 (0, 0)) ap84_ hb); replace BK292 := As_ (blk_below (g := gb292) (o := .cells #[.string t289, .int .i64 0] 75 (0, 0)) ap89_ hb); replace HB := As_ (below_step ap80_ hb); (try clear hb); (try clear hb2); (try clear hk); (try clear hi); obtain ⟨hcz63_0, hfz63_0, hcz63_1, hfz63_1⟩ := clN2 BK292.out; obtain ⟨hcz64_0, hfz64_0, hcz64_1, hfz64_1, hcz64_2, hfz64_2, hcz64_3, hfz64_3, hcz64_4, hfz64_4⟩ := clN5 BK291.out) | ((with_reducible refine gate_callee (f := 42) rfl ?_); refine gk_ (some 37) Tryz.func42 #[.agg #[.string t293, .int .i64 t294]] ?_; (with_reducible refine (footbridgeref01_R_Text.calls k t293 t294 t296 t297 t298 _ A7.out).mono ?_); rintro e w65 ⟨rfl, hb⟩; refine ⟨_, rfl, ?_⟩; replace BK287 := As_ (blk_below (g := gb287) (o := .cells #[.string ⟨#[]⟩, .string ⟨#[]⟩, .string ⟨#[]⟩, .string ⟨#[]⟩, .string ⟨#[]⟩] 23 (0, 0)) ap92_ hb); replace BK291 := As_ (blk_below (g := gb291) (o := .cells #[.string a1, .string a2, .string t295, .string ⟨#[]⟩, .string ⟨#[]⟩] 23 (0, 0)) ap105_ hb); replace BK292 := As_ (blk_below (g := gb292) (o := .cells #[.string t293, .int .i64 t294] 75 (0, 0)) ap97_ hb); replace HB := As_ (below_step ap80_ hb); (try clear hb); (try clear hb2); (try clear hk); (try clear hi); obtain ⟨hcz66_0, hfz66_0, hcz66_1, hfz66_1⟩ := clN2 BK292.out; obtain ⟨hcz67_0, hfz67_0, hcz67_1, hfz67_1, hcz67_2, hfz67_2, hcz67_3, hfz67_3, hcz67_4, hfz67_4⟩ := clN5 BK291.out) | ((with_reducible refine gate_callee (f := 42) rfl ?_); refine gk_ (some 44) Tryz.func42 #[.agg #[.string t296, .int .i64 t297]] ?_; (with_reducible refine (footbridgeref01_R_Text.calls k t296 t297 t299 t300 t301 _ A8.out).mono ?_); rintro e w68 ⟨rfl, hb⟩; refine ⟨_, rfl, ?_⟩; replace BK287 := As_ (blk_below (g := gb287) (o := .cells #[.string ⟨#[]⟩, .string ⟨#[]⟩, .string ⟨#[]⟩, .string ⟨#[]⟩, .string ⟨#[]⟩] 23 (0, 0)) ap92_ hb); replace BK291 := As_ (blk_below (g := gb291) (o := .cells #[.string a1, .string a2, .string t295, .string t298, .string ⟨#[]⟩] 23 (0, 0)) ap104_ hb); replace BK292 := As_ (blk_below (g := gb292) (o := .cells #[.string t296, .int .i64 t297] 75 (0, 0)) ap100_ hb); replace HB := As_ (below_step ap80_ hb); (try clear hb); (try clear hb2); (try clear hk); (try clear hi); obtain ⟨hcz69_0, hfz69_0, hcz69_1, hfz69_1⟩ := clN2 BK292.out; obtain ⟨hcz70_0, hfz70_0, hcz70_1, hfz70_1, hcz70_2, hfz70_2, hcz70_3, hfz70_3, hcz70_4, hfz70_4⟩ := clN5 BK291.out; obtain ⟨hcz71_0, hfz71_0, hcz71_1, hfz71_1, hcz71_2, hfz71_2, hcz71_3, hfz71_3, hcz71_4, hfz71_4⟩ := clN5 BK287.out))
  refine bodyPost_ret (results_ct rfl _ _ gb287 23 #[.string ⟨#[]⟩, .string ⟨#[]⟩, .string ⟨#[]⟩, .string ⟨#[]⟩, .string ⟨#[]⟩] (0, 0) _ rfl (by (with_reducible repeat (first | refine blk_drewN ?_ _ | refine blk_drew ?_ | refine blk_alloc ?_ _)); refine blk_put (cs := #[.string ⟨#[]⟩, .string ⟨#[]⟩, .string ⟨#[]⟩, .string ⟨#[]⟩, .string ⟨#[]⟩]) ?_ 4 _ rfl; (with_reducible repeat (first | refine blk_drewN ?_ _ | refine blk_drew ?_ | refine blk_alloc ?_ _)); refine blk_put (cs := #[.string ⟨#[]⟩, .string ⟨#[]⟩, .string ⟨#[]⟩, .string ⟨#[]⟩, .string ⟨#[]⟩]) ?_ 3 _ rfl; (with_reducible repeat (first | refine blk_drewN ?_ _ | refine blk_drew ?_ | refine blk_alloc ?_ _)); refine blk_put (cs := #[.string ⟨#[]⟩, .string ⟨#[]⟩, .string ⟨#[]⟩, .string ⟨#[]⟩, .string ⟨#[]⟩]) ?_ 2 _ rfl; (with_reducible repeat (first | refine blk_drewN ?_ _ | refine blk_drew ?_ | refine blk_alloc ?_ _)); refine blk_put (cs := #[.string ⟨#[]⟩, .string ⟨#[]⟩, .string ⟨#[]⟩, .string ⟨#[]⟩, .string ⟨#[]⟩]) ?_ 1 _ rfl; (with_reducible repeat (first | refine blk_drewN ?_ _ | refine blk_drew ?_ | refine blk_alloc ?_ _)); refine blk_put (cs := #[.string ⟨#[]⟩, .string ⟨#[]⟩, .string ⟨#[]⟩, .string ⟨#[]⟩, .string ⟨#[]⟩]) ?_ 0 _ rfl; (with_reducible repeat (first | refine blk_drewN ?_ _ | refine blk_drew ?_ | refine blk_alloc ?_ _)); refine blk_far ?_ NB287_291.out _; (with_reducible repeat (first | refine blk_drewN ?_ _ | refine blk_drew ?_ | refine blk_alloc ?_ _)); refine blk_far ?_ NB287_292.out _; (with_reducible repeat (first | refine blk_drewN ?_ _ | refine blk_drew ?_ | refine blk_alloc ?_ _)); refine blk_far ?_ NB287_292.out _; (with_reducible repeat (first | refine blk_drewN ?_ _ | refine blk_drew ?_ | refine blk_alloc ?_ _)); exact BK287.out) Tryz.underlying23 rfl (by kernel_rfl)) rfl ?_
  exact ⟨ap17_, ap80_⟩
end Go.Proofs.YtjappgjpikbdeaaGreatDoor.PTkp

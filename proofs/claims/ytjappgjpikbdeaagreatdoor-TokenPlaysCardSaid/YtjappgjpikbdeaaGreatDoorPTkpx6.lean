/- A part of the walk of TokenPlays. No condition. -/
import Derived.Test.YtjappgjpikbdeaaGreatDoorPTkpx0
import Derived.Test.YtjappgjpikbdeaaGreatDoorPTkpx1
import Derived.Test.YtjappgjpikbdeaaGreatDoorPTkpx2
import Derived.Test.YtjappgjpikbdeaaGreatDoorPTkpx3
import Derived.Test.YtjappgjpikbdeaaGreatDoorPTkpx4
import Derived.Test.YtjappgjpikbdeaaGreatDoorPTkpx5
namespace Go.Proofs.YtjappgjpikbdeaaGreatDoor.PTkp
set_option maxRecDepth 100000
set_option maxHeartbeats 8000000
open Go.RowKit Go.Proofs.YtjappgjpikbdeaaGreatDoorW.PrintWords Go.Proofs.YtjappgjpikbdeaaGreatDoorW.PrintLast Go.Proofs.YtjappgjpikbdeaaGreatDoorW.PrintMore
attribute [local go_sem] max2_int min2_int max_two min_two max_three min_three max_four min_four   -- for this text's walks alone
set_option linter.unusedVariables false
set_option linter.unusedSimpArgs false
mutual
def footbridgeref22_New.j0 : Nat → List (S82) → ByteArray → Bool → Bool → ByteArray → ByteArray → ByteArray → ByteArray → Option ((List (S82)) × Int)
 | 0, _, _, _, _, _, _, _, _ => none
 | k + 1, x0, x6, x8, x28, x264000, x264001, x264002, x264003 => if x28 = true then (some (x0, 7)) else (if (x264001.size : Int) > 32768 then (footbridgeref22_New.j1 k x0 x6 x8 true x264000 x264001 x264002 x264003) else (footbridgeref22_New.j1 k x0 x6 x8 (decide ((x264002.size : Int) > 16384)) x264000 x264001 x264002 x264003))
def footbridgeref22_New.j1 : Nat → List (S82) → ByteArray → Bool → Bool → ByteArray → ByteArray → ByteArray → ByteArray → Option ((List (S82)) × Int)
 | 0, _, _, _, _, _, _, _, _ => none
 | k + 1, x0, x6, x8, x46, x264000, x264001, x264002, x264003 => if x46 = true then (some (x0, 4)) else (if x8 = true then (some (x0, 9)) else ((footbridgeref22_key.f k x264000).bind fun t270 => ((footbridgeref14_Put.f k x0 t270 x6).bind fun t271 => (some (t271, 0)))))
end
def footbridgeref22_New.f (k : Nat) (l0 : List (S82)) (a1_0 : ByteArray) (a1_1 : ByteArray) (a1_2 : ByteArray) (a1_3 : ByteArray) : Option ((List (S82)) × Int) := (footbridgeref14_Text.f k a1_1).bind fun t264 => ((footbridgeref14_Text.f k a1_2).bind fun t265 => (if t264.size + t265.size ≤ 9223372036854775807 then ((footbridgeref14_Text.f k a1_3).bind fun t266 => (if (t264 ++ t265).size + t266.size ≤ 9223372036854775807 then ((footbridgeref22_key.f k a1_0).bind fun t267 => ((footbridgeref09_Get.f k l0 t267).bind fun bt268 => (if (a1_0.size : Int) < 1 then (footbridgeref22_New.j0 k l0 ((t264 ++ t265) ++ t266) bt268.2 true a1_0 a1_1 a1_2 a1_3) else (if (a1_0.size : Int) > 512 then (footbridgeref22_New.j0 k l0 ((t264 ++ t265) ++ t266) bt268.2 true a1_0 a1_1 a1_2 a1_3) else (footbridgeref22_New.j0 k l0 ((t264 ++ t265) ++ t266) bt268.2 (decide ((a1_3.size : Int) > 512)) a1_0 a1_1 a1_2 a1_3))))) else (none))) else (none)))
theorem footbridgeref22_New.mono_l : ∀ k, (∀ y0 y1 y2 y3 y4 y5 y6 y7, LeO (footbridgeref22_New.j0 k y0 y1 y2 y3 y4 y5 y6 y7) (footbridgeref22_New.j0 (k + 1) y0 y1 y2 y3 y4 y5 y6 y7)) ∧ (∀ y0 y1 y2 y3 y4 y5 y6 y7, LeO (footbridgeref22_New.j1 k y0 y1 y2 y3 y4 y5 y6 y7) (footbridgeref22_New.j1 (k + 1) y0 y1 y2 y3 y4 y5 y6 y7))
 | 0 => ⟨fun _ _ _ _ _ _ _ _ r h => by simp [footbridgeref22_New.j0] at h, fun _ _ _ _ _ _ _ _ r h => by simp [footbridgeref22_New.j1] at h⟩
 | k + 1 => by
  obtain ⟨ih0, ih1⟩ := footbridgeref22_New.mono_l k
  refine ⟨?_, ?_⟩
  ·intro y0 y1 y2 y3 y4 y5 y6 y7
   unfold footbridgeref22_New.j0
   repeat' first
   | (with_reducible exact ih0 _ _ _ _ _ _ _ _)
   | (with_reducible exact ih1 _ _ _ _ _ _ _ _)
   | (with_reducible exact footbridgeref09_Get.mono _ _ _)
   | (with_reducible exact footbridgeref14_Put.mono _ _ _ _)
   | (with_reducible exact footbridgeref14_Text.mono _ _)
   | (with_reducible exact footbridgeref22_key.mono _ _)
   | (with_reducible exact LeO.refl _)
   | (with_reducible exact LeO.none _)
   | (with_reducible refine LeO.ite ?_ ?_)
   | (with_reducible refine LeO.bind ?_ (fun _ => ?_))
   | exact ih0 _ _ _ _ _ _ _ _
   | exact ih1 _ _ _ _ _ _ _ _
   | exact footbridgeref09_Get.mono _ _ _
   | exact footbridgeref14_Put.mono _ _ _ _
   | exact footbridgeref14_Text.mono _ _
   | exact footbridgeref22_key.mono _ _
   | exact LeO.none _
   | refine LeO.ite ?_ ?_
   | refine LeO.bind ?_ (fun _ => ?_)
  ·intro y0 y1 y2 y3 y4 y5 y6 y7
   unfold footbridgeref22_New.j1
   repeat' first
   | (with_reducible exact ih0 _ _ _ _ _ _ _ _)
   | (with_reducible exact ih1 _ _ _ _ _ _ _ _)
   | (with_reducible exact footbridgeref09_Get.mono _ _ _)
   | (with_reducible exact footbridgeref14_Put.mono _ _ _ _)
   | (with_reducible exact footbridgeref14_Text.mono _ _)
   | (with_reducible exact footbridgeref22_key.mono _ _)
   | (with_reducible exact LeO.refl _)
   | (with_reducible exact LeO.none _)
   | (with_reducible refine LeO.ite ?_ ?_)
   | (with_reducible refine LeO.bind ?_ (fun _ => ?_))
   | exact ih0 _ _ _ _ _ _ _ _
   | exact ih1 _ _ _ _ _ _ _ _
   | exact footbridgeref09_Get.mono _ _ _
   | exact footbridgeref14_Put.mono _ _ _ _
   | exact footbridgeref14_Text.mono _ _
   | exact footbridgeref22_key.mono _ _
   | exact LeO.none _
   | refine LeO.ite ?_ ?_
   | refine LeO.bind ?_ (fun _ => ?_)
theorem footbridgeref22_New.mono : ∀ a0 a1 a2 a3 a4 k, LeO (footbridgeref22_New.f k a0 a1 a2 a3 a4) (footbridgeref22_New.f (k + 1) a0 a1 a2 a3 a4) := by
 intro a0 a1 a2 a3 a4 k
 obtain ⟨ih0, ih1⟩ := footbridgeref22_New.mono_l k
 unfold footbridgeref22_New.f
 repeat' first
   | (with_reducible exact ih0 _ _ _ _ _ _ _ _)
   | (with_reducible exact ih1 _ _ _ _ _ _ _ _)
   | (with_reducible exact footbridgeref09_Get.mono _ _ _)
   | (with_reducible exact footbridgeref14_Put.mono _ _ _ _)
   | (with_reducible exact footbridgeref14_Text.mono _ _)
   | (with_reducible exact footbridgeref22_key.mono _ _)
   | (with_reducible exact LeO.refl _)
   | (with_reducible exact LeO.none _)
   | (with_reducible refine LeO.ite ?_ ?_)
   | (with_reducible refine LeO.bind ?_ (fun _ => ?_))
   | exact ih0 _ _ _ _ _ _ _ _
   | exact ih1 _ _ _ _ _ _ _ _
   | exact footbridgeref09_Get.mono _ _ _
   | exact footbridgeref14_Put.mono _ _ _ _
   | exact footbridgeref14_Text.mono _ _
   | exact footbridgeref22_key.mono _ _
   | exact LeO.none _
   | refine LeO.ite ?_ ?_
   | refine LeO.bind ?_ (fun _ => ?_)
def footbridgeref22_New.T1 : Bool × List (List Nat × List Nat) := (true, [([], []), ([0], [0]), ([1], [1]), ([], []), ([3], [3]), ([4, 2], [4]), ([2, 5], [2, 5]), ([], []), ([7], [7]), ([8, 5], [8]), ([6, 9], [6, 9]), ([10, 9, 0, 1, 2, 3, 4, 5, 6, 7, 8, 9, 10], [10])])
def footbridgeref22_New.B1 : List Nat := [0, 1, 3, 0, 8, 31, 63, 0, 128, 447, 1023, 2047]
theorem footbridgeref22_New.tab1 : rtab .any (opsOf Tryz.f36 1) = footbridgeref22_New.T1 := by kernel_rfl
theorem footbridgeref22_New.bits1 : waitsOk footbridgeref22_New.T1.2 footbridgeref22_New.B1 = true := by kernel_rfl
theorem footbridgeref22_New.calls (k : Nat) (P0_ : Nat → Prop) (A0 : Option Addr) (c0 : Nat) (l0 : List (S82)) (a1_0 : ByteArray) (a1_1 : ByteArray) (a1_2 : ByteArray) (a1_3 : ByteArray) (r1 : List (S82)) (r2 : Int) (w : World) (hs0 : Kd.V k82 82 w w.heap.size (fun k_ => P0_ k_) (.slice A0 l0.length c0) l0) (h : footbridgeref22_New.f k l0 a1_0 a1_1 a1_2 a1_3 = some (r1, r2)) :
  Calls Tryz.prog 36 #[.slice A0 l0.length c0, .agg #[.string a1_0, .string a1_1, .string a1_2, .string a1_3]] w fun e w' => ∃ v0_ : Value, e = .returned (.tuple #[v0_, .int .i64 r2]) ∧ Kd.V k82 82 w' w.heap.size (fun k_ => (P0_ k_ ∨ w.heap.size ≤ k_)) v0_ r1 ∧ Below w.heap.size w w' := by
 have hu66 := Tryz.underlying66
 have HO0 := As_ (show Kd.V k82 82 w w.heap.size (fun k_ => (P0_ k_ ∨ w.heap.size ≤ k_)) (.slice A0 l0.length c0) l0 from Kd.V_mono hs0 (fun k_ hk => .inl hk))
 have HB := As_ (Below.refl w.heap.size w)
 have H : ((footbridgeref14_Text.f k a1_1).bind fun t264 => ((footbridgeref14_Text.f k a1_2).bind fun t265 => (if t264.size + t265.size ≤ 9223372036854775807 then ((footbridgeref14_Text.f k a1_3).bind fun t266 => (if (t264 ++ t265).size + t266.size ≤ 9223372036854775807 then ((footbridgeref22_key.f k a1_0).bind fun t267 => ((footbridgeref09_Get.f k l0 t267).bind fun bt268 => (if (a1_0.size : Int) < 1 then (footbridgeref22_New.j0 k l0 ((t264 ++ t265) ++ t266) bt268.2 true a1_0 a1_1 a1_2 a1_3) else (if (a1_0.size : Int) > 512 then (footbridgeref22_New.j0 k l0 ((t264 ++ t265) ++ t266) bt268.2 true a1_0 a1_1 a1_2 a1_3) else (footbridgeref22_New.j0 k l0 ((t264 ++ t265) ++ t266) bt268.2 (decide ((a1_3.size : Int) > 512)) a1_0 a1_1 a1_2 a1_3))))) else (none))) else (none)))) = some (r1, r2) := h
 clear h
 replace H := Option.bind_eq_some_iff.mp H
 obtain ⟨t264, A30, H⟩ := H
 try dsimp only at H
 have A3 := As_ A30
 clear A30
 replace H := Option.bind_eq_some_iff.mp H
 obtain ⟨t265, A40, H⟩ := H
 try dsimp only at H
 have A4 := As_ A40
 clear A40
 by_cases c5 : t264.size + t265.size ≤ 9223372036854775807
 ·rw [if_pos c5] at H
  have c5b0 := eq_true c5
  have c5b1 : decide (t264.size + t265.size ≤ 9223372036854775807) = true := decide_eq_true c5
  try have c5b2 : (9223372036854775807 < t264.size + t265.size) = False := eq_false (Nat.not_lt.2 c5)
  replace H := Option.bind_eq_some_iff.mp H
  obtain ⟨t266, A60, H⟩ := H
  try dsimp only at H
  have A6 := As_ A60
  clear A60
  by_cases c7 : (t264 ++ t265).size + t266.size ≤ 9223372036854775807
  ·rw [if_pos c7] at H
   have c7b0 := eq_true c7
   have c7b1 : decide ((t264 ++ t265).size + t266.size ≤ 9223372036854775807) = true := decide_eq_true c7
   try have c7b2 : (9223372036854775807 < (t264 ++ t265).size + t266.size) = False := eq_false (Nat.not_lt.2 c7)
   try (have c7b2_ := c7b2; simp only [ByteArray.size_append, my_lit_size, List.length_cons, List.length_nil, Nat.reduceAdd] at c7b2_)
   replace H := Option.bind_eq_some_iff.mp H
   obtain ⟨t267, A80, H⟩ := H
   try dsimp only at H
   have A8 := As_ A80
   clear A80
   replace H := Option.bind_eq_some_iff.mp H
   obtain ⟨⟨t268, t269⟩, A90, H⟩ := H
   try dsimp only at H
   have A9 := As_ A90
   clear A90
   have HC10 := As_ H
   clear H
   go_enter Tryz.func36, Tryz.ntmps36
   try go_wp2_with (first | ((with_reducible refine gate_dst (N := 3) rfl ?_); (try (refine gate_guard (by rfl) ?_; dsimp only)); refine bxE (N := 3) (cs := #[.string a1_0, .string a1_1, .string a1_2, .string a1_3]) (t := 66) ?_; intro gb263 hg w11 hbox hb; replace HO0 := As_ (Kd.V_below (Kd.V_elderB ap18_ gb263 (Nat.le_of_eq hg.symm)) hb); have BK263 := As_ (hbox); have GW263 := As_ ((by rw [hg]; exact (below_size ap50_) : w.heap.size ≤ gb263)); have GE263 := As_ ((by rw [hg]; exact (below_size ap50_) : w.heap.size ≤ gb263)); replace HB := As_ (below_step ap50_ hb); clear hb hbox hg))
   replace HO0 := As_ (Kd.V_drew HO0.out)
   replace BK263 := As_ (blk_drew BK263.out)
   replace HB := As_ (below_drew1 HB.out)
   refine start_ (n := 12) (S := fun w' => w'.cell? ⟨gb263, 0, none⟩ = some (.string a1_0) ∧ w'.cell? ⟨gb263, 1, none⟩ = some (.string a1_1) ∧ w'.cell? ⟨gb263, 2, none⟩ = some (.string a1_2) ∧ w'.cell? ⟨gb263, 3, none⟩ = some (.string a1_3)) (ds := []) #[false, false, false, false, false, false, false, false, false, false, false, false] (by kernel_rfl) rfl rfl ⟨(blk_cell BK263.out 0).trans rfl, (blk_cell BK263.out 1).trans rfl, (blk_cell BK263.out 2).trans rfl, (blk_cell BK263.out 3).trans rfl⟩ (fun hHeld => ?_); refine with_tabW footbridgeref22_New.tab1 footbridgeref22_New.bits1 (fun HT_ HW_ => ?_)
   generalize w11.drew = w12 at HO0 BK263 HB hHeld ⊢
   refine pure_ (i := 0) (N := some 9) #[true, false, false, false, false, false, false, false, false, false, false, false] rfl rfl (any_of HT_.out (by kernel_rfl)) (fun _ _ _ h => h) (Or.inl ⟨by rfl, ap2_⟩) ap35_ ?_
   refine pure_ (i := 3) (N := some 12) #[true, false, false, true, false, false, false, false, false, false, false, false] rfl rfl (any_of HT_.out (by kernel_rfl)) (fun _ _ _ h => h) (Or.inl ⟨by rfl, ap2_⟩) ap35_ ?_
   refine pure_ (i := 7) (N := some 16) #[true, false, false, true, false, false, false, true, false, false, false, false] rfl rfl (any_of HT_.out (by kernel_rfl)) (fun _ _ _ h => h) (Or.inl ⟨by rfl, ap2_⟩) ap35_ ?_
   refine take_ (i := 1) (N := some 10) #[true, true, false, true, false, false, false, true, false, false, false, false] rfl rfl (take_ofW HT_.out HW_.out (by kernel_rfl)) (fun _ _ _ h => h) (Or.inl ⟨by rfl, ap9_⟩) hHeld ap35_ ?_
   refine take_ (i := 4) (N := some 13) #[true, true, false, true, true, false, false, true, false, false, false, false] rfl rfl (take_ofW HT_.out HW_.out (by kernel_rfl)) (fun _ _ _ h => h) (Or.inl ⟨by rfl, ap9_⟩) hHeld ap35_ ?_
   refine take_ (i := 8) (N := some 17) #[true, true, false, true, true, false, false, true, true, false, false, false] rfl rfl (take_ofW HT_.out HW_.out (by kernel_rfl)) (fun _ _ _ h => h) (Or.inl ⟨by rfl, ap9_⟩) hHeld ap35_ ?_
   refine one_ (i := 2) (N := some 11) #[true, true, true, true, true, false, false, true, true, false, false, false] rfl rfl (one_of HT_.out (by kernel_rfl)) (by decide) (fun K hK => ?_)
   refine goes_ Tryz.func65 (by kernel_rfl) rfl #[.string a1_1] (by rfl) rfl rfl ap54_ ?_
   with_reducible refine (footbridgeref14_Text.calls k a1_1 t264 _ A3.out).mono ?_
   rintro e w13 ⟨rfl, hb⟩
   refine ⟨_, rfl, ?_⟩
   replace HO0 := As_ (Kd.V_below ap18_ hb)
   replace BK263 := As_ (blk_below (g := gb263) (o := .cells #[.string a1_0, .string a1_1, .string a1_2, .string a1_3] 66 (0, 0)) ap45_ hb)
   replace HB := As_ (below_step ap59_ hb)
   (try clear hb)
   (try clear hb2)
   (try clear hk)
   (try clear hi)
   refine hK.out _ _ ⟨(blk_cell BK263.out 0).trans rfl, (blk_cell BK263.out 1).trans rfl, (blk_cell BK263.out 2).trans rfl, (blk_cell BK263.out 3).trans rfl⟩ (fun hHeld => ?_)
   clear hK K
   refine norm_ (a' := ?_) ?_ ?_
   rotate_left
   ·show Act.put _ (some 11) _ = _
    simp only [Act.put, List.setIfInBounds_toArray, List.set_cons_zero, List.set_cons_succ, i64_w, i32_w]
    rfl
   refine one_ (i := 5) (N := some 14) #[true, true, true, true, true, true, false, true, true, false, false, false] rfl rfl (one_of HT_.out (by kernel_rfl)) (by decide) (fun K hK => ?_)
   refine goes_ Tryz.func65 (by kernel_rfl) rfl #[.string a1_2] (by rfl) rfl rfl ap54_ ?_
   with_reducible refine (footbridgeref14_Text.calls k a1_2 t265 _ A4.out).mono ?_
   rintro e w14 ⟨rfl, hb⟩
   refine ⟨_, rfl, ?_⟩
   replace HO0 := As_ (Kd.V_below ap18_ hb)
   replace BK263 := As_ (blk_below (g := gb263) (o := .cells #[.string a1_0, .string a1_1, .string a1_2, .string a1_3] 66 (0, 0)) ap45_ hb)
   replace HB := As_ (below_step ap59_ hb)
   (try clear hb)
   (try clear hb2)
   (try clear hk)
   (try clear hi)
   refine hK.out _ _ ⟨(blk_cell BK263.out 0).trans rfl, (blk_cell BK263.out 1).trans rfl, (blk_cell BK263.out 2).trans rfl, (blk_cell BK263.out 3).trans rfl⟩ (fun hHeld => ?_)
   clear hK K
   refine norm_ (a' := ?_) ?_ ?_
   rotate_left
   ·show Act.put _ (some 14) _ = _
    simp only [Act.put, List.setIfInBounds_toArray, List.set_cons_zero, List.set_cons_succ, i64_w, i32_w]
    rfl
   refine pure_ (i := 6) (N := some 15) #[true, true, true, true, true, true, true, true, true, false, false, false] rfl rfl (any_of HT_.out (by kernel_rfl)) (fun _ _ _ h => h) (Or.inl ⟨by rfl, ap2_⟩) ap35_ ?_
   refine one_ (i := 9) (N := some 18) #[true, true, true, true, true, true, true, true, true, true, false, false] rfl rfl (one_of HT_.out (by kernel_rfl)) (by decide) (fun K hK => ?_)
   refine goes_ Tryz.func65 (by kernel_rfl) rfl #[.string a1_3] (by rfl) rfl rfl ap54_ ?_
   with_reducible refine (footbridgeref14_Text.calls k a1_3 t266 _ A6.out).mono ?_
   rintro e w15 ⟨rfl, hb⟩
   refine ⟨_, rfl, ?_⟩
   replace HO0 := As_ (Kd.V_below ap18_ hb)
   replace BK263 := As_ (blk_below (g := gb263) (o := .cells #[.string a1_0, .string a1_1, .string a1_2, .string a1_3] 66 (0, 0)) ap45_ hb)
   replace HB := As_ (below_step ap59_ hb)
   (try clear hb)
   (try clear hb2)
   (try clear hk)
   (try clear hi)
   refine hK.out _ _ ⟨(blk_cell BK263.out 0).trans rfl, (blk_cell BK263.out 1).trans rfl, (blk_cell BK263.out 2).trans rfl, (blk_cell BK263.out 3).trans rfl⟩ (fun hHeld => ?_)
   clear hK K
   refine norm_ (a' := ?_) ?_ ?_
   rotate_left
   ·show Act.put _ (some 18) _ = _
    simp only [Act.put, List.setIfInBounds_toArray, List.set_cons_zero, List.set_cons_succ, i64_w, i32_w]
    rfl
   refine pure_ (i := 10) (N := some 19) #[true, true, true, true, true, true, true, true, true, true, true, false] rfl rfl (any_of HT_.out (by kernel_rfl)) (fun _ _ _ h => h) (Or.inl ⟨by rfl, ap2_⟩) ap35_ ?_
   refine pure_ (i := 11) (N := some 6) #[true, true, true, true, true, true, true, true, true, true, true, true] rfl rfl (any_of HT_.out (by kernel_rfl)) (fun _ _ _ h => h) (Or.inl ⟨by rfl, ap2_⟩) ap35_ ?_
   refine done_ (done_of HT_.out (by kernel_rfl)) ?_
   obtain ⟨hcz16_0, hfz16_0, hcz16_1, hfz16_1, hcz16_2, hfz16_2, hcz16_3, hfz16_3⟩ := clN4 BK263.out
   go_upto_region 3 with (first | ((with_reducible refine gate_callee (f := 66) rfl ?_); refine gk_ (some 24) Tryz.func66 #[.string a1_0] ?_; (with_reducible refine (footbridgeref22_key.calls k a1_0 t267 _ A8.out).mono ?_); rintro e w17 ⟨rfl, hb⟩; refine ⟨_, rfl, ?_⟩; replace HO0 := As_ (Kd.V_below ap18_ hb); replace BK263 := As_ (blk_below (g := gb263) (o := .cells #[.string a1_0, .string a1_1, .string a1_2, .string a1_3] 66 (0, 0)) ap45_ hb); replace HB := As_ (below_step ap59_ hb); (try clear hb); (try clear hb2); (try clear hk); (try clear hi)) | ((with_reducible refine gate_callee (f := 40) rfl ?_); refine gk_ (some 25) Tryz.func40 #[.slice A0 l0.length c0, .string t267] ?_; (with_reducible refine (footbridgeref09_Get.calls k _ _ l0 t267 t268 t269 _ ?side1 ?side2 A9.out).mono ?_); (case side1 => repeat (first | exact (Kd.V_reads' HO0.out).2.2 | (with_reducible refine Kd.C_alloc ?_ _) | (with_reducible refine Kd.C_drewN ?_ _) | (with_reducible refine Kd.C_drew ?_))); (case side2 => exact (Kd.V_reads' HO0.out).2.1); rintro e w' ⟨rfl, ⟨nd, rfl⟩⟩; refine ⟨_, rfl, ?_⟩))
   (try simp only [Act.put, List.setIfInBounds_toArray, List.set_cons_zero, List.set_cons_succ])
   go_cut [28] (fun v28 wc => ∃ (kq : Nat) (x28_9 : Bool), v28 = .bool x28_9 ∧ Aside0 (footbridgeref22_New.j0 kq l0 ((t264 ++ t265) ++ t266) t269 x28_9 a1_0 a1_1 a1_2 a1_3 = some (r1, r2)) ∧ Aside0 (kq ≤ k) ∧ Aside0 (Kd.V k82 82 wc w.heap.size (fun k_ => (P0_ k_ ∨ w.heap.size ≤ k_) ∧ k_ ≠ gb263) (.slice A0 l0.length c0) l0) ∧ Aside0 (wc.heap[gb263]? = some (.cells #[.string a1_0, .string a1_1, .string a1_2, .string a1_3] 66 (0, 0))) ∧ Aside0 (Below w.heap.size w wc))
   case first =>
    have H := HC10.out
    clear HC10
    by_cases c18 : (a1_0.size : Int) < 1
    ·rw [if_pos c18] at H
     have c18b0 : decide ((a1_0.size : Int) < 1) = true := decide_eq_true c18
     have c18b1 : decide (a1_0.size < 1) = true := decide_eq_true (by omega)
     clear c18
     (first | rw [c18b0] | (simp only [i64_w, i32_w]; rw [c18b0]) | skip)
     have H' := As_ H
     clear H
     obtain ⟨hcz19_0, hfz19_0, hcz19_1, hfz19_1, hcz19_2, hfz19_2, hcz19_3, hfz19_3⟩ := clN4 BK263.out
     go_wp2
     go_meet
     case rel => exact ⟨_, (true), ap5_, H', ⟨ap1_⟩, ⟨ap18_⟩, ⟨ap45_⟩, ⟨ap59_⟩⟩
    ·rw [if_neg c18] at H
     have c18b0 : decide ((a1_0.size : Int) < 1) = false := decide_eq_false c18
     have c18b1 : decide (a1_0.size < 1) = false := decide_eq_false (by omega)
     clear c18
     (first | rw [c18b0] | (simp only [i64_w, i32_w]; rw [c18b0]) | skip)
     by_cases c20 : (a1_0.size : Int) > 512
     ·rw [if_pos c20] at H
      have c20b0 : decide (512 < (a1_0.size : Int)) = true := decide_eq_true c20
      have c20b1 : decide (512 < a1_0.size) = true := decide_eq_true (by omega)
      clear c20
      have H' := As_ H
      clear H
      obtain ⟨hcz21_0, hfz21_0, hcz21_1, hfz21_1, hcz21_2, hfz21_2, hcz21_3, hfz21_3⟩ := clN4 BK263.out
      go_wp2
      go_meet
      case rel => exact ⟨_, (true), ap5_, H', ⟨ap1_⟩, ⟨ap18_⟩, ⟨ap45_⟩, ⟨ap59_⟩⟩
     ·rw [if_neg c20] at H
      have c20b0 : decide (512 < (a1_0.size : Int)) = false := decide_eq_false c20
      have c20b1 : decide (512 < a1_0.size) = false := decide_eq_false (by omega)
      clear c20
      have H' := As_ H
      clear H
      obtain ⟨hcz22_0, hfz22_0, hcz22_1, hfz22_1, hcz22_2, hfz22_2, hcz22_3, hfz22_3⟩ := clN4 BK263.out
      go_wp2
      go_meet
      case rel => exact ⟨_, (decide ((a1_3.size : Int) > 512)), ap5_, H', ⟨ap1_⟩, ⟨ap18_⟩, ⟨ap45_⟩, ⟨ap59_⟩⟩
   case rest =>
    clear HC10
    try clear c5
    try clear c5b0
    try clear c5b1
    try clear c5b2
    try clear c7
    try clear c7b0
    try clear c7b1
    try clear c7b2
    try clear hcz16_0
    try clear hcz16_1
    try clear hcz16_2
    try clear hcz16_3
    try clear hfz16_0
    try clear hfz16_1
    try clear hfz16_2
    try clear hfz16_3
    obtain ⟨kq, x28_9, rfl, HA, HJ9, HO_0, BK263, HB⟩ := hcut
    cases kq with
    | zero => exact absurd HA.out (by simp [footbridgeref22_New.j0])
    | succ kj9 =>
     have H := HA.out
     clear HA
     simp only [footbridgeref22_New.j0] at H
     by_cases c23 : x28_9 = true
     ·subst c23
      have H1 : (some (l0, 7)) = some (r1, r2) := by rw [if_pos rfl] at H; exact H
      clear H
      have H := H1
      clear H1
      simp only [Option.some.injEq, Prod.mk.injEq] at H
      obtain ⟨rfl, rfl⟩ := H
      go_wp2
      go_ret2
      exact ⟨_, ap17_, ap51_, ap59_⟩
     ·replace c23 := Bool.eq_false_iff.mpr c23
      subst c23
      have H1 : (if (a1_1.size : Int) > 32768 then (footbridgeref22_New.j1 kj9 l0 ((t264 ++ t265) ++ t266) t269 true a1_0 a1_1 a1_2 a1_3) else (footbridgeref22_New.j1 kj9 l0 ((t264 ++ t265) ++ t266) t269 (decide ((a1_2.size : Int) > 16384)) a1_0 a1_1 a1_2 a1_3)) = some (r1, r2) := by rw [if_neg (show ¬ (false = true) by decide)] at H; exact H
      clear H
      have H := H1
      clear H1
      have HC24 := As_ H
      clear H
      go_upto_region 5 with (fail)
      go_cut [46] (fun v46 wc => ∃ (kq : Nat) (x46_23 : Bool), v46 = .bool x46_23 ∧ Aside0 (footbridgeref22_New.j1 kq l0 ((t264 ++ t265) ++ t266) t269 x46_23 a1_0 a1_1 a1_2 a1_3 = some (r1, r2)) ∧ Aside0 (kq ≤ kj9) ∧ Aside0 (Kd.V k82 82 wc w.heap.size (fun k_ => (P0_ k_ ∨ w.heap.size ≤ k_) ∧ k_ ≠ gb263) (.slice A0 l0.length c0) l0) ∧ Aside0 (wc.heap[gb263]? = some (.cells #[.string a1_0, .string a1_1, .string a1_2, .string a1_3] 66 (0, 0))) ∧ Aside0 (Below w.heap.size w wc))
      case first =>
       have H := HC24.out
       clear HC24
       by_cases c25 : (a1_1.size : Int) > 32768
       ·rw [if_pos c25] at H
        have c25b0 : decide (32768 < (a1_1.size : Int)) = true := decide_eq_true c25
        have c25b1 : decide (32768 < a1_1.size) = true := decide_eq_true (by omega)
        clear c25
        (first | rw [c25b0] | (simp only [i64_w, i32_w]; rw [c25b0]) | skip)
        have H' := As_ H
        clear H
        obtain ⟨hcz26_0, hfz26_0, hcz26_1, hfz26_1, hcz26_2, hfz26_2, hcz26_3, hfz26_3⟩ := clN4 BK263.out
        go_wp2
        go_meet
        case rel => exact ⟨_, (true), ap5_, H', ⟨by have := HJ9.out; first | omega | exact Nat.le_refl _⟩, ⟨ap19_⟩, ⟨ap45_⟩, ⟨ap59_⟩⟩
       ·rw [if_neg c25] at H
        have c25b0 : decide (32768 < (a1_1.size : Int)) = false := decide_eq_false c25
        have c25b1 : decide (32768 < a1_1.size) = false := decide_eq_false (by omega)
        clear c25
        (first | rw [c25b0] | (simp only [i64_w, i32_w]; rw [c25b0]) | skip)
        have H' := As_ H
        clear H
        obtain ⟨hcz27_0, hfz27_0, hcz27_1, hfz27_1, hcz27_2, hfz27_2, hcz27_3, hfz27_3⟩ := clN4 BK263.out
        go_wp2
        go_meet
        case rel => exact ⟨_, (decide ((a1_2.size : Int) > 16384)), ap5_, H', ⟨by have := HJ9.out; first | omega | exact Nat.le_refl _⟩, ⟨ap19_⟩, ⟨ap45_⟩, ⟨ap59_⟩⟩
      case rest =>
       clear HC24
       try clear c5
       try clear c5b0
       try clear c5b1
       try clear c5b2
       try clear c7
       try clear c7b0
       try clear c7b1
       try clear c7b2
       try clear c23
       try clear hcz16_0
       try clear hcz16_1
       try clear hcz16_2
       try clear hcz16_3
       try clear hfz16_0
       try clear hfz16_1
       try clear hfz16_2
       try clear hfz16_3
       obtain ⟨kq, x46_23, rfl, HA, HJ23, HO_0, BK263, HB⟩ := hcut
       cases kq with
       | zero => exact absurd HA.out (by simp [footbridgeref22_New.j1])
       | succ kj23 =>
        have H := HA.out
        clear HA
        simp only [footbridgeref22_New.j1] at H
        by_cases c28 : x46_23 = true
        ·subst c28
         have H1 : (some (l0, 4)) = some (r1, r2) := by rw [if_pos rfl] at H; exact H
         clear H
         have H := H1
         clear H1
         simp only [Option.some.injEq, Prod.mk.injEq] at H
         obtain ⟨rfl, rfl⟩ := H
         go_wp2
         go_ret2
         exact ⟨_, ap17_, ap51_, ap59_⟩
        ·replace c28 := Bool.eq_false_iff.mpr c28
         subst c28
         have H1 : (if t269 = true then (some (l0, 9)) else ((footbridgeref22_key.f kj23 a1_0).bind fun t270 => ((footbridgeref14_Put.f kj23 l0 t270 ((t264 ++ t265) ++ t266)).bind fun t271 => (some (t271, 0))))) = some (r1, r2) := by rw [if_neg (show ¬ (false = true) by decide)] at H; exact H
         clear H
         have H := H1
         clear H1
         by_cases c29 : t269 = true
         ·subst c29
          have H1 : (some (l0, 9)) = some (r1, r2) := by rw [if_pos rfl] at H; exact H
          clear H
          have H := H1
          clear H1
          simp only [Option.some.injEq, Prod.mk.injEq] at H
          obtain ⟨rfl, rfl⟩ := H
          go_wp2
          go_ret2
          exact ⟨_, ap17_, ap51_, ap59_⟩
         ·replace c29 := Bool.eq_false_iff.mpr c29
          subst c29
          have H1 : ((footbridgeref22_key.f kj23 a1_0).bind fun t270 => ((footbridgeref14_Put.f kj23 l0 t270 ((t264 ++ t265) ++ t266)).bind fun t271 => (some (t271, 0)))) = some (r1, r2) := by rw [if_neg (show ¬ (false = true) by decide)] at H; exact H
          clear H
          have H := H1
          clear H1
          replace H := Option.bind_eq_some_iff.mp H
          obtain ⟨t270, A300, H⟩ := H
          try dsimp only at H
          have A30 := As_ A300
          clear A300
          replace H := Option.bind_eq_some_iff.mp H
          obtain ⟨t271, A310, H⟩ := H
          try dsimp only at H
          have A31 := As_ A310
          clear A310
          simp only [Option.some.injEq, Prod.mk.injEq] at H
          obtain ⟨rfl, rfl⟩ := H
          obtain ⟨hcz32_0, hfz32_0, hcz32_1, hfz32_1, hcz32_2, hfz32_2, hcz32_3, hfz32_3⟩ := clN4 BK263.out
          go_wp2_with (first | ((with_reducible refine gate_callee (f := 66) rfl ?_); refine gk_ (some 64) Tryz.func66 #[.string a1_0] ?_; (with_reducible refine (footbridgeref22_key.calls kj23 a1_0 t270 _ A30.out).mono ?_); rintro e w33 ⟨rfl, hb⟩; refine ⟨_, rfl, ?_⟩; replace HO_0 := As_ (Kd.V_below ap19_ hb); replace BK263 := As_ (blk_below (g := gb263) (o := .cells #[.string a1_0, .string a1_1, .string a1_2, .string a1_3] 66 (0, 0)) ap45_ hb); replace HB := As_ (below_step ap59_ hb); (try clear hb); (try clear hb2); (try clear hk); (try clear hi)) | ((with_reducible refine gate_callee (f := 67) rfl ?_); refine gk_ (some 66) Tryz.func67 #[.slice A0 l0.length c0, .string t270, .string ((t264 ++ t265) ++ t266)] ?_; (with_reducible refine (footbridgeref14_Put.calls kj23 _ _ l0 t270 ((t264 ++ t265) ++ t266) t271 _ ?side1 ?side2 A31.out).mono ?_); (case side1 => repeat (first | exact (Kd.V_reads' HO_0.out).2.2 | (with_reducible refine Kd.C_alloc ?_ _) | (with_reducible refine Kd.C_drewN ?_ _) | (with_reducible refine Kd.C_drew ?_))); (case side2 => exact (Kd.V_reads' HO_0.out).2.1); rintro e w34 ⟨v272, rfl, ho0, hb⟩; refine ⟨_, rfl, ?_⟩; replace HO_0 := As_ (Kd.V_elder' ap19_ (Kd.R_base ho0) hb); have HO273 := As_ (Kd.R_lower (Kd.R_newM (M := fun k_ => (w.heap.size ≤ k_)) ho0 (below_size ap59_) (fun k_ h_ => h_)) (below_size ap59_)); replace BK263 := As_ (blk_below (g := gb263) (o := .cells #[.string a1_0, .string a1_1, .string a1_2, .string a1_3] 66 (0, 0)) ap45_ hb); replace HB := As_ (below_step ap59_ hb); (try clear hb); (try clear hb2); (try clear hk); (try clear hi); (try clear ho0)))
          go_ret2
          exact ⟨_, ap17_, Kd.V_mono (Kd.R_V (by (with_reducible repeat (first | apply Kd.R_alloc | apply Kd.R_drewN | apply Kd.R_drew)); exact Kd.R_mono HO273.out (fun _ hk => hk.1))) (fun k_ hk => by first | exact ⟨(.inr (hk.1)), hk.2⟩ | exact (.inr (hk))), ap59_⟩
  ·rw [if_neg c7] at H
   exact absurd H (by simp)
 ·rw [if_neg c5] at H
  exact absurd H (by simp)
theorem at_l0 (l : List S82) (key : ByteArray) (hs : sortK l) (hl : l.length ≤ 1000000000) : ∀ m j k, l.length - j = m → j ≤ posK l key → m < k → footbridgeref09_at.l0 k l key (j : Int) = some ((posK l key : Nat) : Int) := by
 have hp := posK_le l key
 intro m
 induction m with
 | zero =>
  intro j k h1 h2 h3
  obtain ⟨k, rfl⟩ : ∃ k', k = k' + 1 := ⟨k - 1, by omega⟩
  obtain rfl : j = posK l key := by omega
  rw [footbridgeref09_at.l0, if_neg (by omega)]
 | succ m ih =>
  intro j k h1 h2 h3
  obtain ⟨k, rfl⟩ : ∃ k', k = k' + 1 := ⟨k - 1, by omega⟩
  have hj : j < l.length := by omega
  rw [footbridgeref09_at.l0, if_pos (by omega), if_pos (by omega), rdP l j hj]
  have hsp := posK_spec l key hs j hj
  by_cases hlt : j < posK l key
  ·rw [decide_eq_true hlt] at hsp
   unfold kLt at hsp
   rw [if_pos hsp, w64p j (by omega)]
   exact ih (j + 1) k (by omega) (by omega) (by omega)
  ·rw [decide_eq_false hlt] at hsp
   obtain rfl : j = posK l key := by omega
   rw [if_neg (by intro h; unfold kLt at hsp; rw [h] at hsp; exact absurd hsp (by simp))]
theorem at_f (l : List S82) (key : ByteArray) (k : Nat) (hs : sortK l) (hl : l.length ≤ 1000000000) (hk : l.length < k) : footbridgeref09_at.f k l key = some ((posK l key : Nat) : Int) := at_l0 l key hs hl l.length 0 k (by omega) (by omega) hk
theorem hasK_cases (l : List S82) (key : ByteArray) : (∃ hp : posK l key < l.length, hasK l key = (l[posK l key].f0.toList == key.toList)) ∨ (posK l key = l.length ∧ hasK l key = false) := by
 have hp := posK_le l key
 by_cases h : posK l key < l.length
 ·refine .inl ⟨h, ?_⟩
  unfold hasK
  rw [List.getElem?_eq_getElem h]
 ·refine .inr ⟨by omega, ?_⟩
  unfold hasK
  rw [List.getElem?_eq_none (by omega)]
theorem get_f (l : List S82) (key : ByteArray) (k : Nat) (hs : sortK l) (hl : l.length ≤ 1000000000) (hk : l.length < k) : footbridgeref09_Get.f k l key = some (getK l key) := by
 unfold footbridgeref09_Get.f getK
 rw [at_f l key k hs hl hk, Option.bind_some]
 rcases hasK_cases l key with ⟨hp, hh⟩ | ⟨hp, hh⟩
 ·rw [if_pos (by omega), if_pos (by omega), hh]
  rw [rdP l _ hp]
  by_cases he : l[posK l key].f0.toList = key.toList
  ·rw [if_pos he, if_pos (beq_iff_eq.2 he)]
  ·rw [if_neg he, if_neg (by rw [beq_eq_false_iff_ne.2 he]; simp)]
 ·rw [if_neg (by omega), hh, if_neg (by simp)]
theorem set_f (l : List S82) (key value : ByteArray) (k : Nat) (hs : sortK l) (hl : l.length ≤ 1000000000) (hk : l.length < k) : footbridgeref09_Set.f k l key value = some (setK l key value, !hasK l key) := by
 unfold footbridgeref09_Set.f setK
 rw [at_f l key k hs hl hk, Option.bind_some]
 have hd : ∀ i, (l.drop i).length ≤ 1000000000 := fun i => by rw [List.length_drop]; omega
 have ht : ∀ i, (l.take i).length ≤ 1000000000 := fun i => by rw [List.length_take]; omega
 rcases hasK_cases l key with ⟨hp, hh⟩ | ⟨hp, hh⟩
 ·rw [if_neg (by omega), if_pos (by omega), if_pos (by omega), if_pos (by omega), Option.bind_some, rdP l _ hp, Int.toNat_natCast]
  have h1 := ht (posK l key)
  have h2 := hd (posK l key)
  have h3 := hd (posK l key + 1)
  by_cases he : l[posK l key].f0.toList = key.toList
  ·have hk1 : l[posK l key].f0 = key := ba_ext he
   rw [if_neg (not_not_intro he), w64p _ (by omega), if_pos (by omega), if_pos (by omega), Int.toNat_natCast, Option.bind_some, Option.bind_some, List.nil_append, if_pos ap0_, Option.bind_some, if_pos (by omega), Option.bind_some, if_pos ap15_]
   rw [hh, if_pos (beq_iff_eq.2 he), beq_iff_eq.2 he, bne, beq_iff_eq.2 he]
   congr 2
   rw [List.set_eq_take_append_cons_drop, if_pos hp, List.append_assoc]; rfl
  ·rw [if_pos he, Option.bind_some, List.nil_append, if_pos ap0_, Option.bind_some, if_pos (by omega), Option.bind_some, if_pos ap15_]
   rw [hh, if_neg (by rw [beq_eq_false_iff_ne.2 he]; simp), bne, beq_eq_false_iff_ne.2 he, List.append_assoc]
   rfl
 ·have h1 := ht (posK l key)
  have h2 := hd (posK l key)
  rw [if_pos (by omega), if_pos (by omega), if_pos (by omega), Option.bind_some, Option.bind_some, Int.toNat_natCast, List.nil_append, if_pos ap0_, Option.bind_some, if_pos (by omega), Option.bind_some, if_pos ap15_]
  rw [hh, if_neg (by simp), List.append_assoc]
  rfl
def bIn (l : List UInt8) : List Int := l.map fun c => (c.toNat : Int)
theorem bIn_str (l : List UInt8) : strOfNums (bIn l) = ofL l := by
 apply ba_ext
 rw [ByteArray.toList_eq, ofL_toList, strOfNums_data]
 unfold bIn
 rw [List.map_map]
 conv => rhs; rw [← List.map_id l]
 refine List.map_congr_left (fun c _ => ?_)
 show UInt8.ofNat (c.toNat : Int).toNat = c
 rw [Int.toNat_natCast]; simp
theorem bIn_append (l m : List UInt8) : bIn (l ++ m) = bIn l ++ bIn m := by unfold bIn; exact List.map_append
theorem bIn_len (l : List UInt8) : (bIn l).length = l.length := by unfold bIn; exact List.length_map _
theorem bt_at' (s : List UInt8) (i : Nat) (h : i < s.length) : bt (ofL s) (i : Int) = ((s[i]).toNat : Int) := by
 have hb := bt_get (ofL s) i (by rw [ofL_toList]; exact h)
 simp only [ofL_toList] at hb
 exact hb
theorem bt_is (s : List UInt8) (i : Nat) (h : i < s.length) (c : UInt8) (n : Int) (hn : (c.toNat : Int) = n) : (bt (ofL s) (i : Int) = n) ↔ s[i] = c := by
 rw [bt_at' s i h, ← hn]
 exact ⟨fun e => UInt8.toNat_inj.1 (by omega), fun e => by rw [e]⟩
theorem hiddenRef_go (s : List UInt8) (hs : s.length ≤ 50000000) : ∀ (d i : Nat) (acc : List UInt8), d = s.length - i → i ≤ s.length → acc.length ≤ 2 * i → Ev (fun k => footbridgeref08_hidden.l0 k (ofL s) (bIn acc) (i : Int)) (ofL (acc ++ hidL (s.drop i))) := by
 intro d
 induction d with
 | zero =>
  intro i acc hd hi ha
  refine ⟨1, fun k hk => ?_⟩
  obtain ⟨m, rfl⟩ : ∃ m, k = m + 1 := ⟨k - 1, by omega⟩
  show footbridgeref08_hidden.l0 (m + 1) (ofL s) (bIn acc) (i : Int) = _
  simp only [footbridgeref08_hidden.l0]
  rw [ofL_size, if_neg (by omega), List.drop_eq_nil_of_le (by omega), bIn_str]
  congr 2
  simp [hidL]
 | succ d ih =>
  intro i acc hd hi ha
  have hil : i < s.length := by omega
  obtain ⟨K, e⟩ := ih (i + 1) (acc ++ (if s[i] = 37 then [37, 112] else if s[i] = 47 then [37, 115] else [s[i]])) (by omega) (by omega) (by
   rw [List.length_append]
   have : (if s[i] = 37 then [37, 112] else if s[i] = 47 then [37, 115] else [s[i]] : List UInt8).length ≤ 2 := by split <;> (try split) <;> simp
   omega)
  refine ⟨K + 1, fun k hk => ?_⟩
  obtain ⟨m, rfl⟩ : ∃ m, k = m + 1 := ⟨k - 1, by omega⟩
  have e : footbridgeref08_hidden.l0 m (ofL s) _ ((i + 1 : Nat) : Int) = _ := e m (by omega)
  have hfin : acc ++ hidL (s.drop i) = (acc ++ (if s[i] = 37 then [37, 112] else if s[i] = 47 then [37, 115] else [s[i]])) ++ hidL (s.drop (i + 1)) := by
   rw [List.drop_eq_getElem_cons hil, hidL_cons, List.append_assoc]
  rw [hfin, ← e]
  show footbridgeref08_hidden.l0 (m + 1) (ofL s) (bIn acc) (i : Int) = _
  simp only [footbridgeref08_hidden.l0]
  have b1 := bt_is s i hil 37 37 rfl
  have b2 := bt_is s i hil 47 47 rfl
  rw [ofL_size, if_pos (by omega), if_pos (by omega), w_one i (by omega)]
  by_cases h1 : s[i] = 37
  ·rw [if_pos (b1.2 h1), if_pos h1, Option.bind_some, if_pos (by rw [bIn_len]; simp only [List.length_cons, List.length_nil]; omega), bIn_append]; rfl
  ·rw [if_neg (fun e => h1 (b1.1 e)), if_neg h1]
   by_cases h2 : s[i] = 47
   ·rw [if_pos (b2.2 h2), if_pos h2, Option.bind_some, if_pos (by rw [bIn_len]; simp only [List.length_cons, List.length_nil]; omega), bIn_append]; rfl
   ·rw [if_neg (fun e => h2 (b2.1 e)), if_neg h2, if_pos (by rw [bIn_len]; omega), bIn_append, bt_at' s i hil]; rfl
theorem hiddenRef_ev (a : ByteArray) (h : a.size ≤ 50000000) : Ev (fun k => footbridgeref08_hidden.f k a) (ofL (hidL a.toList)) := by
 have h2 := h
 rw [ba_size] at h2
 obtain ⟨K, e⟩ := hiddenRef_go a.toList h2 a.toList.length 0 [] (by omega) (by omega) (by simp)
 rw [ofL_of] at e
 exact ⟨K, e⟩
theorem joinRef_go (l : List ByteArray) (hl : l.length ≤ 1000) (hs : ∀ p ∈ l, p.size ≤ 50000000) : ∀ (d i : Nat) (acc : ByteArray), d = l.length - i → i ≤ l.length → acc.size ≤ 100000000 + i * 100000001 → Ev (fun k => footbridgeref08_Join.l0 k l acc (i : Int)) (acc ++ ofL ((l.drop i).flatMap fun p => 47 :: hidL p.toList)) := by
 intro d
 induction d with
 | zero =>
  intro i acc hd hi ha
  refine ⟨1, fun k hk => ?_⟩
  obtain ⟨m, rfl⟩ : ∃ m, k = m + 1 := ⟨k - 1, by omega⟩
  show footbridgeref08_Join.l0 (m + 1) l acc (i : Int) = _
  simp only [footbridgeref08_Join.l0]
  rw [if_neg (by omega), List.drop_eq_nil_of_le (by omega)]
  congr 1
  apply ba_ext; rw [ba_append, ofL_toList]; simp
 | succ d ih =>
  intro i acc hd hi ha
  have hil : i < l.length := by omega
  have hp := hs l[i] (List.getElem_mem hil)
  have hlen := hidL_len (l[i]).toList
  rw [← ba_size] at hlen
  have h47 : (⟨#[47]⟩ : ByteArray).size = 1 := rfl
  have hi2 : i * 100000001 ≤ 1000 * 100000001 := Nat.mul_le_mul_right _ (by omega)
  obtain ⟨K, e⟩ := ih (i + 1) ((acc ++ (⟨#[47]⟩ : ByteArray)) ++ ofL (hidL (l[i]).toList)) (by omega) (by omega) (by rw [ByteArray.size_append, ByteArray.size_append, ofL_size, h47, Nat.add_mul]; omega)
  obtain ⟨K1, e1⟩ := hiddenRef_ev l[i] hp
  refine ⟨K + K1 + 1, fun k hk => ?_⟩
  obtain ⟨m, rfl⟩ : ∃ m, k = m + 1 := ⟨k - 1, by omega⟩
  have e : footbridgeref08_Join.l0 m l _ ((i + 1 : Nat) : Int) = _ := e m (by omega)
  have e1 : footbridgeref08_hidden.f m l[i] = _ := e1 m (by omega)
  show footbridgeref08_Join.l0 (m + 1) l acc (i : Int) = _
  simp only [footbridgeref08_Join.l0]
  rw [if_pos (by omega), if_pos (by omega), if_pos (by omega), rdOf_get l i hil, e1, Option.bind_some, if_pos (by rw [ByteArray.size_append, ofL_size, h47]; omega), w_one i (by omega), e]
  congr 1
  rw [List.drop_eq_getElem_cons hil, List.flatMap_cons]
  apply ba_ext
  simp only [ba_append, ofL_toList, one_list]
  simp
theorem joinRef_ev (a : ByteArray) (l : List ByteArray) (ha : a.size ≤ 50000000) (hl : l.length ≤ 1000) (hs : ∀ p ∈ l, p.size ≤ 50000000) : Ev (fun k => footbridgeref08_Join.f k a l) (ofL (keyL a.toList (l.map ByteArray.toList))) := by
 have h1 := hidL_len a.toList
 rw [← ba_size] at h1
 obtain ⟨K, e⟩ := joinRef_go l hl hs l.length 0 (ofL (hidL a.toList)) (by omega) (by omega) (by rw [ofL_size]; omega)
 obtain ⟨K1, e1⟩ := hiddenRef_ev a ha
 refine ⟨K + K1, fun k hk => ?_⟩
 have e : footbridgeref08_Join.l0 k l (ofL (hidL a.toList)) 0 = _ := e k (by omega)
 have e1 : footbridgeref08_hidden.f k a = _ := e1 k (by omega)
 show footbridgeref08_Join.f k a l = _
 unfold footbridgeref08_Join.f
 rw [e1, Option.bind_some, e, ofL_append]
 unfold keyL glue
 rw [List.drop_zero, List.map_map, List.flatMap_map]
 rfl
theorem nBy_pow (s : ByteArray) : ∀ i, nBy s i < 256 ^ i := by
 intro i
 induction i with
 | zero => exact Nat.one_pos
 | succ i ih =>
  have h2 := (bt_range s ((i + 1 : Nat) : Int)).2
  have h3 : nBy s (i + 1) = nBy s i * 256 + (bt s ((i + 1 : Nat) : Int)).toNat := rfl
  rw [h3, Nat.pow_succ]
  omega
theorem refNum_go : ∀ (j n : Nat) (acc : ByteArray), n < 256 ^ j → n ≤ 9007199254740992 → acc.size + j ≤ 200 → ∀ k, j < k → footbridgeref01_Num.l0 k (n : Int) acc = some (strOfNums [(((digB j n).length + acc.size : Nat) : Int)] ++ (strOfNums (digB j n) ++ acc), 0) := by
 intro j
 induction j with
 | zero =>
  intro n acc hn hm ha k hk
  obtain ⟨k, rfl⟩ : ∃ m, k = m + 1 := ⟨k - 1, by omega⟩
  have hn0 : n = 0 := by simpa using hn
  subst hn0
  simp only [footbridgeref01_Num.l0]
  rw [if_neg (by omega), Option.bind_some, if_pos ap14_]
  have e : ((acc.size : Int)) % 256 = (((digB 0 0).length + acc.size : Nat) : Int) := by simp only [digB, List.length_nil]; omega
  rw [e]
  refine congrArg some (Prod.ext (ba_ext ?_) rfl)
  simp only [ba_append, strOf_list, digB, List.map_nil, List.nil_append]
 | succ j ih =>
  intro n acc hn hm ha k hk
  obtain ⟨k, rfl⟩ : ∃ m, k = m + 1 := ⟨k - 1, by omega⟩
  simp only [footbridgeref01_Num.l0]
  by_cases h0 : n = 0
  ·subst h0
   rw [if_neg (by omega), Option.bind_some, if_pos ap14_, digB_0]
   have e : ((acc.size : Int)) % 256 = ((([] : List Int).length + acc.size : Nat) : Int) := by simp only [List.length_nil]; omega
   rw [e]
   refine congrArg some (Prod.ext (ba_ext ?_) rfl)
   simp only [ba_append, strOf_list, List.map_nil, List.nil_append]
  ·rw [if_pos (by omega), Option.bind_some, if_pos ap14_]
   have e1 : Int.tmod (n : Int) 256 % 256 = ((n % 256 : Nat) : Int) := by
    rw [Int.tmod_eq_emod_of_nonneg (by omega)]; omega
   have e2 : wrap64 (Int.tdiv (n : Int) 256) = ((n / 256 : Nat) : Int) := by
    rw [Int.tdiv_eq_ediv_of_nonneg (by omega), w64 (by omega) (by omega)]; omega
   rw [e1, e2, ih (n / 256) _ (by rw [Nat.pow_succ] at hn; exact Nat.div_lt_of_lt_mul (by omega)) (by omega) (by rw [ByteArray.size_append, strOfNums_sz]; simp only [List.length_cons, List.length_nil]; omega) k (by omega)]
   have hd : digB (j + 1) n = digB j (n / 256) ++ [((n % 256 : Nat) : Int)] := by show (if n = 0 then [] else _) = _; rw [if_neg h0]
   rw [hd, List.length_append, List.length_singleton, ByteArray.size_append, strOfNums_sz, List.length_singleton, show (digB j (n / 256)).length + (1 + acc.size) = (digB j (n / 256)).length + 1 + acc.size by omega]
   refine congrArg some (Prod.ext (ba_ext ?_) rfl)
   simp only [ba_append, strOf_list, List.map_append, List.map_cons, List.map_nil, List.append_assoc]
theorem refNum_ev (n : Nat) (h : n ≤ 9007199254740992) : Ev (fun k => footbridgeref01_Num.f k (n : Int)) (numB n, 0) := by
 refine ⟨20, fun k hk => ?_⟩
 obtain ⟨k, rfl⟩ : ∃ m, k = m + 1 := ⟨k - 1, by omega⟩
 show footbridgeref01_Num.f (k + 1) (n : Int) = _
 unfold footbridgeref01_Num.f
 rw [if_neg (by omega), show decide ((n : Int) > 9007199254740992) = false from decide_eq_false (by omega)]
 simp only [footbridgeref01_Num.j0]
 rw [if_neg (by simp), refNum_go 8 n _ (by omega) h (by show 0 + 8 ≤ 200; omega) k (by omega)]
 have e : (⟨#[]⟩ : ByteArray).size = 0 := rfl
 rw [e, Nat.add_zero]
 unfold numB
 refine congrArg some (Prod.ext (ba_ext ?_) rfl)
 simp [ba_append, ByteArray.toList_eq]
theorem ref14Key_ev (a : ByteArray) (l : List ByteArray) (ha : a.size ≤ 50000000) (hl : l.length ≤ 1000) (hs : ∀ p ∈ l, p.size ≤ 50000000) : Ev (fun k => footbridgeref14_Key.f k (a :: l)) (keyB a l) := by
 obtain ⟨K, hK⟩ := joinRef_ev a l ha hl hs
 refine ⟨K, fun k hk => ?_⟩
 have e : footbridgeref08_Join.f k a l = _ := hK k hk
 show footbridgeref14_Key.f k (a :: l) = _
 unfold footbridgeref14_Key.f
 rw [if_pos (by simp only [List.length_cons]; omega), if_pos (by simp only [List.length_cons]; omega)]
 show (footbridgeref08_Join.f k a l).bind _ = _
 rw [e, Option.bind_some]
 rfl
theorem ref14Put_ev (l : List S82) (key value : ByteArray) (hs : sortK l) (hl : l.length ≤ 1000000) : Ev (fun k => footbridgeref14_Put.f k l key value) (setK l key value) := by
 refine ⟨1000001, fun k hk => ?_⟩
 show footbridgeref14_Put.f k l key value = _
 unfold footbridgeref14_Put.f
 rw [set_f l key value k hs (by omega) (by omega), Option.bind_some]
theorem ref09Get_ev (l : List S82) (key : ByteArray) (hs : sortK l) (hl : l.length ≤ 1000000) : Ev (fun k => footbridgeref09_Get.f k l key) (getK l key) :=
 ⟨1000001, fun k hk => get_f l key k hs (by omega) (by omega)⟩
theorem refText_ev (s : ByteArray) : Ev (fun k => footbridgeref01_Text.f k s) (textB s, if (s.size : Int) > 65536 then 4 else 0) := by
 obtain ⟨K, hK⟩ := refNum_ev (if s.size > 65536 then 0 else s.size) (by split <;> omega)
 refine ⟨K, fun k hk => ?_⟩
 show footbridgeref01_Text.f k s = _
 unfold footbridgeref01_Text.f textB
 by_cases h : (s.size : Int) > 65536
 ·rw [if_pos h, if_pos h, if_pos h]
 ·have e : footbridgeref01_Num.f k (((if s.size > 65536 then 0 else s.size : Nat)) : Int) = _ := hK k hk
  rw [if_neg (by omega)] at e
  have hl := numB_len s.size
  rw [if_neg h, if_neg h, if_neg h, e, Option.bind_some, if_pos (by show (numB s.size).size + s.size ≤ _; omega)]
theorem ref14Text_ev (s : ByteArray) : Ev (fun k => footbridgeref14_Text.f k s) (textB s) := by
 obtain ⟨K, hK⟩ := refText_ev s
 refine ⟨K, fun k hk => ?_⟩
 have e : footbridgeref01_Text.f k s = _ := hK k hk
 show footbridgeref14_Text.f k s = _
 unfold footbridgeref14_Text.f
 rw [e, Option.bind_some]
theorem keyB_len1 (a p : ByteArray) : (keyB a [p]).size ≤ 2 * a.size + 1 + 2 * p.size := by
 have h1 := hidL_len a.toList
 have h2 := hidL_len p.toList
 rw [← ba_size] at h1 h2
 unfold keyB keyL glue
 rw [ofL_size]
 simp only [List.map_cons, List.map_nil, List.flatMap_cons, List.flatMap_nil, List.length_append, List.length_cons, List.length_nil]
 omega
theorem valB3 (a b c : ByteArray) : valB [a, b, c] = (textB a ++ textB b) ++ textB c := by
 show (((⟨#[]⟩ : ByteArray) ++ textB a) ++ textB b) ++ textB c = _
 rw [show (⟨#[]⟩ : ByteArray) ++ textB a = textB a from ba_ext ap3_]
theorem ref22Key_ev (id : ByteArray) (h : id.size ≤ 50000000) : Ev (fun k => footbridgeref22_key.f k id) (keyB (⟨#[99, 108, 97, 115, 115]⟩ : ByteArray) [id]) := by
 obtain ⟨K, hK⟩ := ref14Key_ev (⟨#[99, 108, 97, 115, 115]⟩ : ByteArray) [id] (by show 5 ≤ 50000000; omega) (by show 1 ≤ 1000; omega) (fun p hp => by obtain rfl := List.mem_singleton.1 hp; exact h)
 refine ⟨K, fun k hk => ?_⟩
 have e : footbridgeref14_Key.f k [(⟨#[99, 108, 97, 115, 115]⟩ : ByteArray), id] = _ := hK k hk
 show footbridgeref22_key.f k id = _
 unfold footbridgeref22_key.f
 rw [e, Option.bind_some]
theorem getK_2 (cur : List S82) (key : ByteArray) : (getK cur key).2 = hasK cur key := by unfold getK; cases hasK cur key <;> rfl
theorem ref22New_ev (cur : List S82) (c0 c1 c2 c3 : ByteArray) (h : KV 1000 cur) (h0 : c0.size ≤ 1000) (h1 : c1.size ≤ 40000) (h2 : c2.size ≤ 40000) (h3 : c3.size ≤ 1000) : Ev (fun k => footbridgeref22_New.f k cur c0 c1 c2 c3) (clNew cur c0 c1 c2 c3, clNewE cur c0 c1 c2 c3) := by
 have hlen := h.len
 obtain ⟨K1, hh1⟩ := ref14Text_ev c1
 obtain ⟨K2, hh2⟩ := ref14Text_ev c2
 obtain ⟨K3, hh3⟩ := ref14Text_ev c3
 obtain ⟨K4, hh4⟩ := ref22Key_ev c0 (by omega)
 obtain ⟨K5, hh5⟩ := ref14Put_ev cur (keyB (⟨#[99, 108, 97, 115, 115]⟩ : ByteArray) [c0]) (valB [c1, c2, c3]) h.so (by omega)
 have hkl := keyB_len1 (⟨#[99, 108, 97, 115, 115]⟩ : ByteArray) c0
 have l1 := textB_len c1
 have l2 := textB_len c2
 have l3 := textB_len c3
 have hvl : (valB [c1, c2, c3]).size = (textB c1).size + (textB c2).size + (textB c3).size := by rw [valB3, ByteArray.size_append, ByteArray.size_append]
 refine ⟨K1 + K2 + K3 + K4 + K5 + 1000005, fun k hk => ?_⟩
 obtain ⟨m, rfl⟩ : ∃ m, k = m + 2 := ⟨k - 2, by omega⟩
 have t1 : footbridgeref14_Text.f (m + 2) c1 = _ := hh1 _ (by omega)
 have t2 : footbridgeref14_Text.f (m + 2) c2 = _ := hh2 _ (by omega)
 have t3 : footbridgeref14_Text.f (m + 2) c3 = _ := hh3 _ (by omega)
 have t4 : footbridgeref22_key.f (m + 2) c0 = _ := hh4 _ (by omega)
 have t5 : footbridgeref22_key.f m c0 = _ := hh4 _ (by omega)
 have t6 : footbridgeref14_Put.f m cur _ _ = _ := hh5 _ (by omega)
 have t7 : footbridgeref09_Get.f (m + 2) cur (keyB (⟨#[99, 108, 97, 115, 115]⟩ : ByteArray) [c0]) = _ := get_f cur _ (m + 2) h.so (by omega) (by omega)
 show footbridgeref22_New.f (m + 2) cur c0 c1 c2 c3 = _
 unfold footbridgeref22_New.f
 have e5 : (⟨#[99, 108, 97, 115, 115]⟩ : ByteArray).size = 5 := rfl
 rw [e5] at hkl
 rw [t1, Option.bind_some, t2, Option.bind_some, if_pos (by omega), t3, Option.bind_some, if_pos (by rw [ByteArray.size_append]; omega), t4, Option.bind_some, t7, Option.bind_some, ← valB3, getK_2]
 unfold clNew clNewE
 by_cases a1 : c0.size = 0
 ·rw [if_pos (by omega), if_pos (.inl a1), if_pos (.inl a1)]
  simp only [footbridgeref22_New.j0]
  rw [if_pos trivial]
 rw [if_neg (by omega)]
 by_cases a2 : c0.size > 512
 ·rw [if_pos (by omega), if_pos (.inr (.inl a2)), if_pos (.inr (.inl a2))]
  simp only [footbridgeref22_New.j0]
  rw [if_pos trivial]
 rw [if_neg (by omega)]
 by_cases a3 : c3.size > 512
 ·rw [if_pos (.inr (.inr a3)), if_pos (.inr (.inr a3)), decide_eq_true (by omega)]
  simp only [footbridgeref22_New.j0]
  rw [if_pos trivial]
 have n1 : ¬ (c0.size = 0 ∨ c0.size > 512 ∨ c3.size > 512) := by omega
 rw [if_neg n1, if_neg n1, decide_eq_false (by omega)]
 simp only [footbridgeref22_New.j0]
 rw [if_neg (by simp)]
 by_cases a4 : c1.size > 32768
 ·have p2 : c1.size > 32768 ∨ c2.size > 16384 := .inl a4
  have p3 : (c1.size : Int) > 32768 := by omega
  rw [if_pos p3, if_pos p2, if_pos p2]
  simp only [footbridgeref22_New.j1]
  rw [if_pos trivial]
 have p3 : ¬ (c1.size : Int) > 32768 := by omega
 rw [if_neg p3]
 by_cases a5 : c2.size > 16384
 ·have p2 : c1.size > 32768 ∨ c2.size > 16384 := .inr a5
  rw [if_pos p2, if_pos p2, decide_eq_true (by omega)]
  simp only [footbridgeref22_New.j1]
  rw [if_pos trivial]
 have n2 : ¬ (c1.size > 32768 ∨ c2.size > 16384) := by omega
 rw [if_neg n2, if_neg n2, decide_eq_false (by omega)]
 simp only [footbridgeref22_New.j1]
 rw [if_neg (by simp)]
 by_cases a6 : hasK cur (keyB (⟨#[99, 108, 97, 115, 115]⟩ : ByteArray) [c0]) = true
 ·rw [if_pos a6, if_pos a6, if_pos a6]
 ·rw [if_neg a6, if_neg a6, if_neg a6, t5, Option.bind_some, t6, Option.bind_some]
  unfold setC setE
  have n3 : ¬ ((keyB (⟨#[99, 108, 97, 115, 115]⟩ : ByteArray) [c0]).size > 65536 ∨ (valB [c1, c2, c3]).size > 65536) := by omega
  rw [if_neg n3, if_neg n3]
theorem hidL_inj : ∀ a b : List UInt8, hidL a = hidL b → a = b
 | [], [], _ => rfl
 | [], y :: b, h => by
  rw [hidL_cons] at h
  split at h
  ·cases h
  ·split at h <;> cases h
 | x :: a, [], h => by
  rw [hidL_cons] at h
  split at h
  ·cases h
  ·split at h <;> cases h
 | x :: a, y :: b, h => by
  rw [hidL_cons, hidL_cons] at h
  by_cases x1 : x = 37
  ·rw [if_pos x1] at h
   by_cases y1 : y = 37
   ·rw [if_pos y1] at h
    rw [x1, y1, hidL_inj a b (by simpa using h)]
   ·rw [if_neg y1] at h
    by_cases y2 : y = 47
    ·rw [if_pos y2] at h; simp at h
    ·rw [if_neg y2] at h; simp only [List.cons_append, List.nil_append, List.cons.injEq] at h; exact absurd h.1.symm y1
  ·rw [if_neg x1] at h
   by_cases x2 : x = 47
   ·rw [if_pos x2] at h
    by_cases y1 : y = 37
    ·rw [if_pos y1] at h; simp at h
    ·rw [if_neg y1] at h
     by_cases y2 : y = 47
     ·rw [if_pos y2] at h
      rw [x2, y2, hidL_inj a b (by simpa using h)]
     ·rw [if_neg y2] at h; simp only [List.cons_append, List.nil_append, List.cons.injEq] at h; exact absurd h.1.symm y1
   ·rw [if_neg x2] at h
    by_cases y1 : y = 37
    ·rw [if_pos y1] at h; simp only [List.cons_append, List.nil_append, List.cons.injEq] at h; exact absurd h.1 x1
    ·rw [if_neg y1] at h
     by_cases y2 : y = 47
     ·rw [if_pos y2] at h; simp only [List.cons_append, List.nil_append, List.cons.injEq] at h; exact absurd h.1 x1
     ·rw [if_neg y2] at h
      simp only [List.cons_append, List.nil_append, List.cons.injEq] at h
      rw [h.1, hidL_inj a b h.2]
theorem ofL_inj {a b : List UInt8} (h : ofL a = ofL b) : a = b := by
 have h2 := congrArg ByteArray.toList h
 rwa [ofL_toList, ofL_toList] at h2
theorem getK_keep {cur : List S82} (hs : sortK cur) (c i u d o k : ByteArray) (hc : c.size ≤ 1000) (hi : i.size ≤ 1000) (ho : o.size ≤ 1000) (hu : u.size ≤ 32768) (hd : d.size ≤ 16384) :
  getK (tkKeep cur c i u d o) k = if k = tkOwn o c i then ((⟨#[1]⟩ : ByteArray), true) else if k = tkKey c i then (valB [u, d, o], true) else getK cur k := by
 have l1 := tkKey_len c i
 have l2 := tkOwn_len o c i
 have l3 := val3_len u d o
 have e1 : ¬ ((tkOwn o c i).size > 65536 ∨ (⟨#[1]⟩ : ByteArray).size > 65536) := by rw [show (⟨#[1]⟩ : ByteArray).size = 1 from rfl]; omega
 have e2 : ¬ ((tkKey c i).size > 65536 ∨ (valB [u, d, o]).size > 65536) := by omega
 unfold tkKeep
 rw [getK_setC (sortK_setC hs _ _), getK_setC hs]
 by_cases h1 : k = tkOwn o c i
 ·rw [if_pos ⟨h1, e1⟩, if_pos h1]
 ·rw [if_neg (fun h => h1 h.1), if_neg h1]
  by_cases h2 : k = tkKey c i
  ·rw [if_pos ⟨h2, e2⟩, if_pos h2]
  ·rw [if_neg (fun h => h2 h.1), if_neg h2]
theorem sortK_keep {cur : List S82} (hs : sortK cur) (c i u d o : ByteArray) : sortK (tkKeep cur c i u d o) := sortK_setC (sortK_setC hs _ _) _ _
theorem tkGet_of {cur : List S82} {c i u d o : ByteArray} (h : getK cur (tkKey c i) = (valB [u, d, o], true)) (hu : u.size ≤ 32768) (hd : d.size ≤ 16384) (ho : o.size ≤ 1000) : tkGet cur c i = (c, i, u, d, o, 0) := by
 have h2 : hasK cur (tkKey c i) = true := by rw [← getK_has, h]
 unfold tkGet
 rw [h, h2]
 dsimp only
 rw [txt3_val u d o (by omega) (by omega) (by omega)]
 exact if_pos ⟨rfl, rfl⟩
structure Minted (S0 S1 : List S82) (c i u d o : ByteArray) : Prop where
 s0 : sortK S0
 s1 : sortK S1
 at_ : ∀ k, getK S1 k = if k = tkSup c then (numB 1, true) else if k = tkOwn o c i then ((⟨#[1]⟩ : ByteArray), true) else if k = tkKey c i then (valB [u, d, o], true) else getK S0 k
 e0 : ∀ k, k ≠ keyB (⟨#[99, 108, 97, 115, 115]⟩ : ByteArray) [c] → getK S0 k = ((⟨#[]⟩ : ByteArray), false)
theorem bk_one {cur : List S82} (hs : sortK cur) (key k : ByteArray) (hk : key.size ≤ 65536) : getK (bkSet cur key 1) k = if k = key then (numB 1, true) else getK cur k := by
 rw [getK_bk hs]
 by_cases h : k = key
 ·rw [if_pos h, if_pos h]
  have hz : ¬ (key.size > 65536 ∨ (bkNum 1).size > 65536) := by have := bkNum_sz 1; omega
  unfold bkVal
  rw [if_neg (by decide), if_neg hz]
  unfold bkNum
  rw [if_neg (by omega)]
  rfl
 ·rw [if_neg h, if_neg h]
theorem numK_1 {cur : List S82} {key : ByteArray} (h : getK cur key = (numB 1, true)) : numK cur key = 1 := by
 unfold numK
 rw [h]
 dsimp only
 rw [rNum_numB0 1 (by omega)]
 dsimp only
 rw [show rDone (⟨#[]⟩ : ByteArray) 0 = 0 by simp [rDone, ByteArray.toList_eq], if_pos rfl]
 rfl
theorem numK_no {cur : List S82} {key : ByteArray} (h : getK cur key = ((⟨#[]⟩ : ByteArray), false)) : numK cur key = 0 := by
 unfold numK
 rw [h]
 decide +kernel
theorem tk_minted {S0 : List S82} (hs : sortK S0) {c i u d o : ByteArray} (hc : c.size ≤ 1000) (hi : i.size ≤ 1000) (hE : tkMintE S0 c i u d o = 0) (e0 : ∀ k, k ≠ keyB (⟨#[99, 108, 97, 115, 115]⟩ : ByteArray) [c] → getK S0 k = ((⟨#[]⟩ : ByteArray), false)) :
  Minted S0 (tkMint S0 c i u d o) c i u d o ∧ (o.size ≠ 0 ∧ o.size ≤ 512) ∧ u.size ≤ 32768 ∧ d.size ≤ 16384 := by
 have hE' := hE
 unfold tkMintE at hE'
 by_cases h1 : (clGet S0 c).2.2.2.2 ≠ 0
 ·rw [if_pos h1] at hE'; exact absurd hE' h1
 rw [if_neg h1] at hE'
 by_cases h2 : nm_checkSpec 5 i ≠ 0 ∨ o.size = 0 ∨ o.size > 512
 ·rw [if_pos h2] at hE'; exact absurd hE' (by decide)
 rw [if_neg h2] at hE'
 by_cases h3 : u.size > 32768 ∨ d.size > 16384
 ·rw [if_pos h3] at hE'; exact absurd hE' (by decide)
 have ho : o.size ≠ 0 ∧ o.size ≤ 512 := ⟨fun e => h2 (.inr (.inl e)), by omega⟩
 refine ⟨?_, ho, by omega, by omega⟩
 have hn : numK S0 (tkSup c) = 0 := numK_no (e0 _ (ne_SupCls c c))
 unfold tkMint
 rw [if_pos hE, hn]
 have hk := sortK_keep hs c i u d o
 refine ⟨hs, sortK_bk hk _ _, fun k => ?_, e0⟩
 have hl := tkSup_len c
 rw [show (0 : Int) + 1 = 1 from rfl, bk_one hk _ _ (by omega), getK_keep hs c i u d o k hc hi (by omega) (by omega) (by omega)]
theorem Minted.get {S0 S1 : List S82} {c i u d o : ByteArray} (h : Minted S0 S1 c i u d o) (hu : u.size ≤ 32768) (hd : d.size ≤ 16384) (ho : o.size ≤ 1000) : tkGet S1 c i = (c, i, u, d, o, 0) := by
 refine tkGet_of ?_ hu hd ho
 rw [h.at_, if_neg (ne_KeySup c i c), if_neg (ne_KeyOwn c i o c i), if_pos rfl]
theorem tk_moved {S1 : List S82} (hs : sortK S1) {c i u d o p : ByteArray} (hg : tkGet S1 c i = (c, i, u, d, o, 0)) (hp : ¬ (p.size = 0 ∨ p.size > 512)) :
  tkMoveE S1 c i p = 0 ∧ tkMove S1 c i p = tkKeep (delK (delK S1 (tkOwn o c i)) (tkMay c i)) c i u d p := by
 have hE : tkMoveE S1 c i p = 0 := by
  unfold tkMoveE
  rw [hg]
  show (if (0 : Int) ≠ 0 then _ else _) = _
  rw [if_neg (by decide), if_neg hp]
 refine ⟨hE, ?_⟩
 unfold tkMove
 rw [if_pos hE, hg]
 rfl
theorem tk_burnt {S0 S1 : List S82} {c i u d o : ByteArray} (h : Minted S0 S1 c i u d o) (hu : u.size ≤ 32768) (hd : d.size ≤ 16384) (ho : o.size ≠ 0 ∧ o.size ≤ 512) :
  tkE (tkGet S1 c i) = 0 ∧ tkBurn S1 c i = S0 := by
 have g1 := h.get hu hd (by omega)
 have hE : tkE (tkGet S1 c i) = 0 := by rw [g1]; rfl
 refine ⟨hE, ?_⟩
 have hn : numK S1 (tkSup c) = 1 := numK_1 (by rw [h.at_, if_pos rfl])
 unfold tkBurn
 rw [if_pos hE, g1, hn]
 show bkSet (tkBurn3 S1 c i o) (tkSup c) (1 - 1) = _
 unfold bkSet tkBurn3
 rw [if_pos (by decide)]
 have s1 := sortK_del h.s1 (tkKey c i)
 have s2 := sortK_del s1 (tkOwn o c i)
 have s3 := sortK_del s2 (tkMay c i)
 refine sortK_get (sortK_del s3 (tkSup c)) h.s0 (fun k => ?_)
 rw [getK_delK s3]
 by_cases a4 : k = tkSup c
 ·rw [if_pos a4, h.e0 k (fun e => ne_SupCls c c (a4 ▸ e))]
 rw [if_neg a4, getK_delK s2]
 by_cases a3 : k = tkMay c i
 ·rw [if_pos a3, h.e0 k (fun e => ne_MayCls c i c (a3 ▸ e))]
 rw [if_neg a3, getK_delK s1]
 by_cases a1 : k = tkOwn o c i
 ·rw [if_pos a1, h.e0 k (fun e => ne_OwnCls o c i c (a1 ▸ e))]
 rw [if_neg a1, getK_delK h.s1]
 by_cases a2 : k = tkKey c i
 ·rw [if_pos a2, h.e0 k (fun e => ne_KeyCls c i c (a2 ▸ e))]
 rw [if_neg a2, h.at_, if_neg a4, if_neg a1, if_neg a2]
def begK (l : List ByteArray) : List S82 := l.foldl (fun cur x => clNew cur x (⟨#[117]⟩ : ByteArray) (⟨#[]⟩ : ByteArray) (⟨#[97, 108]⟩ : ByteArray)) []
theorem begK_snoc (l : List ByteArray) (x : ByteArray) : begK (l ++ [x]) = clNew (begK l) x (⟨#[117]⟩ : ByteArray) (⟨#[]⟩ : ByteArray) (⟨#[97, 108]⟩ : ByteArray) := by unfold begK; rw [List.foldl_append]; rfl
theorem begK_take (l : List ByteArray) (i : Nat) (h : i < l.length) : begK (l.take (i + 1)) = clNew (begK (l.take i)) l[i] (⟨#[117]⟩ : ByteArray) (⟨#[]⟩ : ByteArray) (⟨#[97, 108]⟩ : ByteArray) := by rw [List.take_add_one, List.getElem?_eq_getElem h]; exact begK_snoc _ _
theorem clNew_KV1 {n : Nat} {cur : List S82} (h : KV n cur) (c0 c1 c2 c3 : ByteArray) : KV (n + 1) (clNew cur c0 c1 c2 c3) := by
 unfold clNew
 repeat' split
 all_goals first | exact h.mono (Nat.le_succ _) | exact h.put _ _
theorem begK_KV_go : ∀ (l : List ByteArray) (n : Nat) (cur : List S82), KV n cur → KV (n + l.length) (l.foldl (fun cur x => clNew cur x (⟨#[117]⟩ : ByteArray) (⟨#[]⟩ : ByteArray) (⟨#[97, 108]⟩ : ByteArray)) cur)
 | [], n, cur, h => h
 | x :: l, n, cur, h => by
  have := begK_KV_go l (n + 1) _ (clNew_KV1 h x (⟨#[117]⟩ : ByteArray) (⟨#[]⟩ : ByteArray) (⟨#[97, 108]⟩ : ByteArray))
  rw [List.foldl_cons, List.length_cons, show n + (l.length + 1) = n + 1 + l.length by omega]
  exact this
theorem begK_KV (l : List ByteArray) : KV l.length (begK l) := by
 have := begK_KV_go l 0 [] (KV.nil 0)
 rw [Nat.zero_add] at this
 exact this
theorem keyCls_len (c : ByteArray) : (keyB (⟨#[99, 108, 97, 115, 115]⟩ : ByteArray) [c]).size ≤ 11 + 2 * c.size := by
 have h1 := hidL_len ((⟨#[99, 108, 97, 115, 115]⟩ : ByteArray)).toList
 have h2 := hidL_len c.toList
 rw [← ba_size] at h1 h2
 have h3 : ((⟨#[99, 108, 97, 115, 115]⟩ : ByteArray)).size = 5 := rfl
 unfold keyB keyL glue
 rw [ofL_size]
 simp only [List.map_cons, List.map_nil, List.flatMap_cons, List.flatMap_nil, List.length_append, List.length_cons, List.length_nil]
 omega
theorem beg1 {c : ByteArray} (h1 : ¬ c.size = 0) (h2 : c.size ≤ 512) : sortK (begK [c]) ∧ ∀ k, getK (begK [c]) k = if k = keyB (⟨#[99, 108, 97, 115, 115]⟩ : ByteArray) [c] then (valB [(⟨#[117]⟩ : ByteArray), (⟨#[]⟩ : ByteArray), (⟨#[97, 108]⟩ : ByteArray)], true) else ((⟨#[]⟩ : ByteArray), false) := by
 have so : sortK ([] : List S82) := List.Pairwise.nil
 have hl := keyCls_len c
 have hv : (valB [(⟨#[117]⟩ : ByteArray), (⟨#[]⟩ : ByteArray), (⟨#[97, 108]⟩ : ByteArray)]).size ≤ 65536 := by decide +kernel
 have a1 : ¬ (c.size = 0 ∨ c.size > 512 ∨ (⟨#[97, 108]⟩ : ByteArray).size > 512) := by rw [show (⟨#[97, 108]⟩ : ByteArray).size = 2 from rfl]; omega
 have a2 : ¬ ((⟨#[117]⟩ : ByteArray).size > 32768 ∨ (⟨#[]⟩ : ByteArray).size > 16384) := by decide
 have a3 : ¬ (hasK ([] : List S82) (keyB (⟨#[99, 108, 97, 115, 115]⟩ : ByteArray) [c]) = true) := fun e => Bool.noConfusion (show false = true from e)
 have e : begK [c] = setC [] (keyB (⟨#[99, 108, 97, 115, 115]⟩ : ByteArray) [c]) (valB [(⟨#[117]⟩ : ByteArray), (⟨#[]⟩ : ByteArray), (⟨#[97, 108]⟩ : ByteArray)]) := by
  show clNew [] c (⟨#[117]⟩ : ByteArray) (⟨#[]⟩ : ByteArray) (⟨#[97, 108]⟩ : ByteArray) = _
  unfold clNew
  rw [if_neg a1, if_neg a2, if_neg a3]
 rw [e]
 refine ⟨sortK_setC so _ _, fun k => ?_⟩
 rw [getK_setC so]
 by_cases h : k = keyB (⟨#[99, 108, 97, 115, 115]⟩ : ByteArray) [c]
 ·rw [if_pos ⟨h, by omega⟩, if_pos h]
 ·rw [if_neg (fun e => h e.1), if_neg h]; rfl
theorem keyCls_inj {a b : ByteArray} (h : keyB (⟨#[99, 108, 97, 115, 115]⟩ : ByteArray) [a] = keyB (⟨#[99, 108, 97, 115, 115]⟩ : ByteArray) [b]) : a = b := by
 unfold keyB keyL glue at h
 have h2 := ofL_inj h
 simp only [List.map_cons, List.map_nil, List.flatMap_cons, List.flatMap_nil, List.append_nil, List.append_cancel_left_eq, List.cons.injEq, true_and] at h2
 exact ba_ext (hidL_inj _ _ h2)
theorem clGet_yes {cur : List S82} {c : ByteArray} (h : getK cur (keyB (⟨#[99, 108, 97, 115, 115]⟩ : ByteArray) [c]) = (valB [(⟨#[117]⟩ : ByteArray), (⟨#[]⟩ : ByteArray), (⟨#[97, 108]⟩ : ByteArray)], true)) : (clGet cur c).2.2.2.2 = 0 := by
 have h2 : hasK cur (keyB (⟨#[99, 108, 97, 115, 115]⟩ : ByteArray) [c]) = true := by rw [← getK_has, h]
 unfold clGet
 rw [h, h2]
 dsimp only
 rw [txt3_val (⟨#[117]⟩ : ByteArray) (⟨#[]⟩ : ByteArray) (⟨#[97, 108]⟩ : ByteArray) (by decide) (by decide) (by decide)]
 rw [if_pos ⟨rfl, rfl⟩]
theorem clGet_no {cur : List S82} {c : ByteArray} (h : getK cur (keyB (⟨#[99, 108, 97, 115, 115]⟩ : ByteArray) [c]) = ((⟨#[]⟩ : ByteArray), false)) : (clGet cur c).2.2.2.2 = 8 := by
 have h2 : hasK cur (keyB (⟨#[99, 108, 97, 115, 115]⟩ : ByteArray) [c]) = false := by rw [← getK_has, h]
 unfold clGet
 rw [h2, if_neg (fun e => Bool.noConfusion e.1)]
theorem tkGet_no {cur : List S82} {c i : ByteArray} (h : getK cur (tkKey c i) = ((⟨#[]⟩ : ByteArray), false)) : tkGet cur c i = ((⟨#[]⟩ : ByteArray), (⟨#[]⟩ : ByteArray), (⟨#[]⟩ : ByteArray), (⟨#[]⟩ : ByteArray), (⟨#[]⟩ : ByteArray), 8) := by
 have h2 : hasK cur (tkKey c i) = false := by rw [← getK_has, h]
 unfold tkGet
 rw [h2, if_neg (fun e => Bool.noConfusion e.1)]
theorem mint_yes {cur : List S82} {c i u d o : ByteArray} (h : getK cur (keyB (⟨#[99, 108, 97, 115, 115]⟩ : ByteArray) [c]) = (valB [(⟨#[117]⟩ : ByteArray), (⟨#[]⟩ : ByteArray), (⟨#[97, 108]⟩ : ByteArray)], true)) (hi : nm_checkSpec 5 i = 0) (ho : ¬ (o.size = 0 ∨ o.size > 512)) (hu : ¬ (u.size > 32768 ∨ d.size > 16384)) (b : Bool) (hb : hasK cur (tkKey c i) = b) : tkMintE cur c i u d o = if b = true then 9 else 0 := by
 unfold tkMintE
 rw [clGet_yes h, if_neg (fun e => e rfl), if_neg (fun e => e.elim (fun e => e hi) ho), if_neg hu, hb]
theorem mint_no {cur : List S82} {c : ByteArray} (h : getK cur (keyB (⟨#[99, 108, 97, 115, 115]⟩ : ByteArray) [c]) = ((⟨#[]⟩ : ByteArray), false)) (i u d o : ByteArray) : tkMintE cur c i u d o = 8 := by
 unfold tkMintE
 rw [clGet_no h, if_pos (by decide)]
theorem Minted.cls {S0 S1 : List S82} {c i u d o : ByteArray} (h : Minted S0 S1 c i u d o) (x : ByteArray) : getK S1 (keyB (⟨#[99, 108, 97, 115, 115]⟩ : ByteArray) [x]) = getK S0 (keyB (⟨#[99, 108, 97, 115, 115]⟩ : ByteArray) [x]) := by
 rw [h.at_, if_neg (ne_ClsSup x c), if_neg (ne_ClsOwn x o c i), if_neg (ne_ClsKey x c i)]
theorem Minted.move {S0 S1 : List S82} {c i u d o p : ByteArray} (h : Minted S0 S1 c i u d o) (hc : c.size ≤ 1000) (hi : i.size ≤ 1000) (hu : u.size ≤ 32768) (hd : d.size ≤ 16384) (ho : o.size ≤ 1000) (hp : ¬ (p.size = 0 ∨ p.size > 512)) :
  tkMoveE S1 c i p = 0 ∧ Minted S0 (tkMove S1 c i p) c i u d p := by
 obtain ⟨e1, m1⟩ := tk_moved h.s1 (h.get hu hd ho) hp
 refine ⟨e1, ?_⟩
 rw [m1]
 have s2 := sortK_del (sortK_del h.s1 (tkOwn o c i)) (tkMay c i)
 refine ⟨h.s0, sortK_keep s2 c i u d p, fun k => ?_, h.e0⟩
 rw [getK_keep s2 c i u d p k hc hi (by omega) hu hd]
 by_cases a4 : k = tkSup c
 ·rw [if_pos a4, if_neg (fun e => ne_SupOwn c p c i (a4.symm.trans e)), if_neg (fun e => ne_SupKey c c i (a4.symm.trans e)), getK_delK (sortK_del h.s1 _), if_neg (fun e => ne_SupMay c c i (a4.symm.trans e)), getK_delK h.s1, if_neg (fun e => ne_SupOwn c o c i (a4.symm.trans e)), h.at_, if_pos a4]
 rw [if_neg a4]
 by_cases a5 : k = tkOwn p c i
 ·rw [if_pos a5, if_pos a5]
 rw [if_neg a5, if_neg a5]
 by_cases a2 : k = tkKey c i
 ·rw [if_pos a2, if_pos a2]
 rw [if_neg a2, if_neg a2, getK_delK (sortK_del h.s1 _)]
 by_cases a3 : k = tkMay c i
 ·rw [if_pos a3, h.e0 k (fun e => ne_MayCls c i c (a3 ▸ e))]
 rw [if_neg a3, getK_delK h.s1]
 by_cases a1 : k = tkOwn o c i
 ·rw [if_pos a1, h.e0 k (fun e => ne_OwnCls o c i c (a1 ▸ e))]
 rw [if_neg a1, h.at_, if_neg a4, if_neg a1, if_neg a2]
theorem Minted.sup {S0 S1 : List S82} {c i u d o : ByteArray} (h : Minted S0 S1 c i u d o) : numK S1 (tkSup c) = 1 := numK_1 (by rw [h.at_, if_pos rfl])
theorem run5_1 : nm_checkSpec 5 (⟨#[49]⟩ : ByteArray) = 0 := nm_eq 5 _ (by decide) 60 0 (by kernel_rfl)
structure TkAw (S0 S1 S2 : List S82) : Prop where
 k0 : KV 10 S0
 k1 : KV 10 S1
 k2 : KV 10 S2
 m1 : tkMintE S0 (⟨#[99, 97, 116]⟩ : ByteArray) (⟨#[49]⟩ : ByteArray) (⟨#[117]⟩ : ByteArray) (⟨#[100]⟩ : ByteArray) (⟨#[97, 108]⟩ : ByteArray) = 0 ∧ tkMint S0 (⟨#[99, 97, 116]⟩ : ByteArray) (⟨#[49]⟩ : ByteArray) (⟨#[117]⟩ : ByteArray) (⟨#[100]⟩ : ByteArray) (⟨#[97, 108]⟩ : ByteArray) = S1
 m2 : tkMintE S1 (⟨#[99, 97, 116]⟩ : ByteArray) (⟨#[49]⟩ : ByteArray) (⟨#[117]⟩ : ByteArray) (⟨#[100]⟩ : ByteArray) (⟨#[97, 108]⟩ : ByteArray) = 9 ∧ tkMint S1 (⟨#[99, 97, 116]⟩ : ByteArray) (⟨#[49]⟩ : ByteArray) (⟨#[117]⟩ : ByteArray) (⟨#[100]⟩ : ByteArray) (⟨#[97, 108]⟩ : ByteArray) = S1
 g1 : tkGet S1 (⟨#[99, 97, 116]⟩ : ByteArray) (⟨#[49]⟩ : ByteArray) = ((⟨#[99, 97, 116]⟩ : ByteArray), (⟨#[49]⟩ : ByteArray), (⟨#[117]⟩ : ByteArray), (⟨#[100]⟩ : ByteArray), (⟨#[97, 108]⟩ : ByteArray), 0)
 n1 : numK S1 (tkSup (⟨#[99, 97, 116]⟩ : ByteArray)) = 1
 v1 : tkMoveE S1 (⟨#[99, 97, 116]⟩ : ByteArray) (⟨#[49]⟩ : ByteArray) (⟨#[98, 111]⟩ : ByteArray) = 0 ∧ tkMove S1 (⟨#[99, 97, 116]⟩ : ByteArray) (⟨#[49]⟩ : ByteArray) (⟨#[98, 111]⟩ : ByteArray) = S2
 g2 : tkGet S2 (⟨#[99, 97, 116]⟩ : ByteArray) (⟨#[49]⟩ : ByteArray) = ((⟨#[99, 97, 116]⟩ : ByteArray), (⟨#[49]⟩ : ByteArray), (⟨#[117]⟩ : ByteArray), (⟨#[100]⟩ : ByteArray), (⟨#[98, 111]⟩ : ByteArray), 0)
 b1 : tkE (tkGet S2 (⟨#[99, 97, 116]⟩ : ByteArray) (⟨#[49]⟩ : ByteArray)) = 0 ∧ tkBurn S2 (⟨#[99, 97, 116]⟩ : ByteArray) (⟨#[49]⟩ : ByteArray) = S0
 b2 : tkE (tkGet S0 (⟨#[99, 97, 116]⟩ : ByteArray) (⟨#[49]⟩ : ByteArray)) = 8 ∧ tkBurn S0 (⟨#[99, 97, 116]⟩ : ByteArray) (⟨#[49]⟩ : ByteArray) = S0
 n0 : numK S0 (tkSup (⟨#[99, 97, 116]⟩ : ByteArray)) = 0
 m3 : tkMintE S0 (⟨#[100, 111, 103]⟩ : ByteArray) (⟨#[49]⟩ : ByteArray) (⟨#[117]⟩ : ByteArray) (⟨#[100]⟩ : ByteArray) (⟨#[97, 108]⟩ : ByteArray) = 8 ∧ tkMint S0 (⟨#[100, 111, 103]⟩ : ByteArray) (⟨#[49]⟩ : ByteArray) (⟨#[117]⟩ : ByteArray) (⟨#[100]⟩ : ByteArray) (⟨#[97, 108]⟩ : ByteArray) = S0
 v2 : tkMoveE S0 (⟨#[99, 97, 116]⟩ : ByteArray) (⟨#[50]⟩ : ByteArray) (⟨#[98, 111]⟩ : ByteArray) = 8 ∧ tkMove S0 (⟨#[99, 97, 116]⟩ : ByteArray) (⟨#[50]⟩ : ByteArray) (⟨#[98, 111]⟩ : ByteArray) = S0
theorem tk_aw : ∃ S1 S2, TkAw (begK [(⟨#[99, 97, 116]⟩ : ByteArray)]) S1 S2 := by
 obtain ⟨so, hg⟩ := beg1 (c := (⟨#[99, 97, 116]⟩ : ByteArray)) (by decide) (by decide)
 have k0 := begK_KV [(⟨#[99, 97, 116]⟩ : ByteArray)]
 obtain ⟨S0, hS0⟩ : ∃ s, begK [(⟨#[99, 97, 116]⟩ : ByteArray)] = s := ⟨_, rfl⟩
 rw [hS0] at so hg k0 ⊢
 clear hS0
 have k0' : KV 1 S0 := k0
 have e0 : ∀ k, k ≠ keyB (⟨#[99, 108, 97, 115, 115]⟩ : ByteArray) [(⟨#[99, 97, 116]⟩ : ByteArray)] → getK S0 k = ((⟨#[]⟩ : ByteArray), false) := fun k hk => by rw [hg, if_neg hk]
 have hc := hg (keyB (⟨#[99, 108, 97, 115, 115]⟩ : ByteArray) [(⟨#[99, 97, 116]⟩ : ByteArray)])
 rw [if_pos rfl] at hc
 have no1 : hasK S0 (tkKey (⟨#[99, 97, 116]⟩ : ByteArray) (⟨#[49]⟩ : ByteArray)) = false := by rw [← getK_has, e0 _ (ne_KeyCls _ _ _)]
 have E1 : tkMintE S0 (⟨#[99, 97, 116]⟩ : ByteArray) (⟨#[49]⟩ : ByteArray) (⟨#[117]⟩ : ByteArray) (⟨#[100]⟩ : ByteArray) (⟨#[97, 108]⟩ : ByteArray) = 0 := by rw [mint_yes hc run5_1 (by decide) (by decide) false no1]; rfl
 obtain ⟨M1, _, _, _⟩ := tk_minted so (by decide) (by decide) E1 e0
 obtain ⟨S1, hS1⟩ : ∃ s, tkMint S0 (⟨#[99, 97, 116]⟩ : ByteArray) (⟨#[49]⟩ : ByteArray) (⟨#[117]⟩ : ByteArray) (⟨#[100]⟩ : ByteArray) (⟨#[97, 108]⟩ : ByteArray) = s := ⟨_, rfl⟩
 have k1 := tkMint_KV k0' (⟨#[99, 97, 116]⟩ : ByteArray) (⟨#[49]⟩ : ByteArray) (⟨#[117]⟩ : ByteArray) (⟨#[100]⟩ : ByteArray) (⟨#[97, 108]⟩ : ByteArray)
 rw [hS1] at M1 k1
 have g1 := M1.get (by decide) (by decide) (by decide)
 have h1 : hasK S1 (tkKey (⟨#[99, 97, 116]⟩ : ByteArray) (⟨#[49]⟩ : ByteArray)) = true := by rw [← getK_has, M1.at_, if_neg (ne_KeySup _ _ _), if_neg (ne_KeyOwn _ _ _ _ _), if_pos rfl]
 have E2 : tkMintE S1 (⟨#[99, 97, 116]⟩ : ByteArray) (⟨#[49]⟩ : ByteArray) (⟨#[117]⟩ : ByteArray) (⟨#[100]⟩ : ByteArray) (⟨#[97, 108]⟩ : ByteArray) = 9 := by rw [mint_yes ((M1.cls _).trans hc) run5_1 (by decide) (by decide) true h1]; rfl
 obtain ⟨v1, M2⟩ := M1.move (p := (⟨#[98, 111]⟩ : ByteArray)) (by decide) (by decide) (by decide) (by decide) (by decide) (by decide)
 obtain ⟨S2, hS2⟩ : ∃ s, tkMove S1 (⟨#[99, 97, 116]⟩ : ByteArray) (⟨#[49]⟩ : ByteArray) (⟨#[98, 111]⟩ : ByteArray) = s := ⟨_, rfl⟩
 have k2 := tkMove_KV k1 (⟨#[99, 97, 116]⟩ : ByteArray) (⟨#[49]⟩ : ByteArray) (⟨#[98, 111]⟩ : ByteArray)
 rw [hS2] at M2 k2
 have b1 := tk_burnt M2 (by decide) (by decide) (by decide)
 have g0 := tkGet_no (e0 _ (ne_KeyCls (⟨#[99, 97, 116]⟩ : ByteArray) (⟨#[49]⟩ : ByteArray) (⟨#[99, 97, 116]⟩ : ByteArray)))
 have g3 := tkGet_no (e0 _ (ne_KeyCls (⟨#[99, 97, 116]⟩ : ByteArray) (⟨#[50]⟩ : ByteArray) (⟨#[99, 97, 116]⟩ : ByteArray)))
 have E3 := mint_no (e0 _ (fun e => absurd (keyCls_inj e) (by decide))) (⟨#[49]⟩ : ByteArray) (⟨#[117]⟩ : ByteArray) (⟨#[100]⟩ : ByteArray) (⟨#[97, 108]⟩ : ByteArray) (c := (⟨#[100, 111, 103]⟩ : ByteArray))
 have x2 : tkE (tkGet S0 (⟨#[99, 97, 116]⟩ : ByteArray) (⟨#[49]⟩ : ByteArray)) = 8 := by rw [g0]; rfl
 have x3 : tkMoveE S0 (⟨#[99, 97, 116]⟩ : ByteArray) (⟨#[50]⟩ : ByteArray) (⟨#[98, 111]⟩ : ByteArray) = 8 := by unfold tkMoveE; rw [g3]; rfl
 refine ⟨S1, S2, k0'.mono (by omega), k1.mono (by omega), k2.mono (by omega), ⟨E1, hS1⟩, ⟨E2, ?_⟩, g1, M1.sup, ⟨v1, hS2⟩, M2.get (by decide) (by decide) (by decide), b1, ⟨x2, ?_⟩, numK_no (e0 _ (ne_SupCls _ _)), ⟨E3, ?_⟩, ⟨x3, ?_⟩⟩
 ·unfold tkMint; rw [E2, if_neg (by decide)]
 ·unfold tkBurn; rw [x2, if_neg (by decide)]
 ·unfold tkMint; rw [E3, if_neg (by decide)]
 ·unfold tkMove; rw [x3, if_neg (by decide)]
theorem tk_begin (A : Option Addr) (c : Nat) (l : List ByteArray) {w : World} (hr : Kd.C Kd.string w A l.length l) (hc : l.length ≤ c) (hl : l.length ≤ 6) (hs : ∀ s ∈ l, s.size ≤ 600) :
  Calls Tryz.prog 11 #[.slice A l.length c] w fun e w' => ∃ g v, e = .returned (.tuple #[.pointer (some ⟨g, 0, none⟩), v]) ∧ J1 w.heap.size g (begK l) v (begK l) w' ∧ Below w.heap.size w w' := by
 have HR0 := As_ hr
 clear hr
 go_enter Tryz.func11, Tryz.ntmps11
 go_wp2_with fail
 refine (j_new_nil w).mono ?_
 rintro e w1 ⟨g, rfl, hm, hb⟩
 have J0 : Aside0 (J1 w.heap.size g [] (.slice none 0 0) [] w1) := As_ (J1.of hm (Kd.V_nil _ _ _ _ _))
 have HB0 := As_ hb
 have hn0 := hb.size
 clear hm hb
 go_wp2_with fail
 go_loopg [5, 6] l.length (fun gg s5 s6 wx => ∃ (j : Nat), s6 = .int .i64 j ∧ j + gg = l.length ∧ w.heap.size ≤ wx.heap.size ∧ Aside0 (J1 w.heap.size g (begK (l.take j)) s5 (begK (l.take j)) wx) ∧ Aside0 (Below w.heap.size w wx))
 case atStart => exact ⟨0, rfl, by omega, hn0, J0, HB0⟩
 case round =>
  clear J0 HB0 hn0
  obtain ⟨j, rfl, hj, hnr, JLr, HBr⟩ := hrel
  by_cases hlt : j < l.length
  ·have hx0 : (0 : Int) ≤ ((j : Nat) : Int) := by omega
   have hkl : ((j : Nat) : Int) < (l.length : Int) := by omega
   obtain ⟨ad, e1, zw⟩ := Kd.at_string HR0.out (j : Int) hx0 hkl
   subst e1
   rw [rdOf_get l j hlt] at zw
   simp only [Int.toNat_natCast] at zw
   have z0 := (HBr.out.cell (World.block_lt_of_cell? _ _ zw)).trans zw
   have hsz := hs _ (List.getElem_mem hlt)
   have AT := As_ (begK_take l j hlt)
   have AW := As_ (w_one j (by omega))
   have hkv := begK_KV (l.take j)
   have hkl2 : (l.take j).length ≤ 6 := by rw [List.length_take]; omega
   generalize l[j] = d at zw z0 hsz AT
   obtain ⟨cur, hcur⟩ : ∃ z, begK (l.take j) = z := ⟨_, rfl⟩
   rw [hcur] at JLr AT hkv
   clear hcur
   have hkv6 := hkv.mono (show (l.take j).length ≤ 1000000 by omega)
   have hkv3 := hkv.mono (show (l.take j).length ≤ 1000 by omega)
   obtain ⟨E, hE⟩ : ∃ z, clNewE cur d (⟨#[117]⟩ : ByteArray) (⟨#[]⟩ : ByteArray) (⟨#[97, 108]⟩ : ByteArray) = z := ⟨_, rfl⟩
   obtain ⟨K1, hK1⟩ := ref22New_ev cur d (⟨#[117]⟩ : ByteArray) (⟨#[]⟩ : ByteArray) (⟨#[97, 108]⟩ : ByteArray) hkv3 (by omega) (by decide) (by decide) (by decide)
   obtain ⟨cur', hcur'⟩ : ∃ z, clNew cur d (⟨#[117]⟩ : ByteArray) (⟨#[]⟩ : ByteArray) (⟨#[97, 108]⟩ : ByteArray) = z := ⟨_, rfl⟩
   rw [hE, hcur'] at hK1
   rw [hcur'] at AT
   obtain ⟨ok, hlt2, hm2, hv2⟩ := id JLr.out
   obtain ⟨A4, c4, rfl, hc4, _⟩ := id hv2
   have hok : ∀ k, ok k → w.heap.size ≤ k := fun k hk => (hlt2 k hk).1
   have HV := As_ hv2
   have HJ := As_ (JS.start hm2 hnr)
   have HK := As_ (JK.of_below (HBr.out : Below w.heap.size w wr))
   have hid : d.size ≤ 50000000 := by omega
   clear JLr hm2 hv2 hlt2 hsz
   go_wp2_with (first | ((with_reducible refine gate_dst (N := 7) rfl ?_); refine bxE (N := 7) (cs := #[.string ⟨#[]⟩, .string ⟨#[]⟩, .string ⟨#[]⟩, .string ⟨#[]⟩]) (t := 66) ?_; intro gbc hg wc hbox hb; have GKc := As_ ((by rw [hg]; exact JK.size (jkG) : w.heap.size ≤ gbc)); have GJc := As_ ((by rw [hg]; exact JS.size0 (base := w.heap.size) (ok := ok) (w0 := wr) (g := g) (cur := cur) (jsG) : wr.heap.size ≤ gbc)); replace HK := As_ (HK.out.trans (JK.of_below hb)); replace HJ := As_ (JS.below (base := w.heap.size) (ok := ok) (w0 := wr) (g := g) (cur := cur) (jsG) hb); have BKc := As_ hbox; clear hb hbox hg; obtain ⟨zc_0, fc_0, zc_1, fc_1, zc_2, fc_2, zc_3, fc_3⟩ := cellsN4 BKc.out; obtain ⟨zc_0, fc_0, zc_1, fc_1, zc_2, fc_2, zc_3, fc_3⟩ := cellsN4 BKc.out))
   refine (cl_new (base := w.heap.size) (ok := ok) (w0 := wr) (g := g) (cur := cur) d (⟨#[117]⟩ : ByteArray) (⟨#[]⟩ : ByteArray) (⟨#[97, 108]⟩ : ByteArray) E cur' (jsG) hkv6 hid hE hcur').mono ?_
   rintro e w4 ⟨rfl, hj4, hk4⟩
   replace HK := As_ ((jkG : JK _ _).trans hk4)
   replace HJ := As_ (hj4)
   replace BKc := As_ (JK.blk (b := gbc) (c := #[.string d, .string ⟨#[117]⟩, .string ⟨#[]⟩, .string ⟨#[97, 108]⟩]) (q := 66) (x := (0, 0)) hk4 (bkG_c) (by decide))
   clear hj4 hk4
   obtain ⟨zc_0, fc_0, zc_1, fc_1, zc_2, fc_2, zc_3, fc_3⟩ := cellsN4 BKc.out
   have hN := footbridgeref22_New.calls K1 (fun k => ¬ ok k ∧ k < wr.heap.size) A4 c4 cur d (⟨#[117]⟩ : ByteArray) (⟨#[]⟩ : ByteArray) (⟨#[97, 108]⟩ : ByteArray) _ _ w4 (V_js HJ.out HV.out) (hK1 K1 (Nat.le_refl _))
   clear hK1
   go_wp2_with fail
   refine hN.mono ?_
   rintro e w5 ⟨v5, rfl, hv5, hb⟩
   have Jn := As_ (J1.of (HJ.out.m.bound.below hb) (Kd.V_mono (Kd.V_lower hv5 (Nat.zero_le _)) (fun k hk h => by rcases hk with ⟨a, b⟩ | a; (rcases h.1 with h1 | h1; exact a h1; omega); (have := h.2.2.1; omega))))
   have HBn := As_ ((HJ.out.old HBr.out hnr hok).trans (hb.mono (HJ.out.old HBr.out hnr hok).size))
   have hnn := Nat.le_trans (HJ.out.old HBr.out hnr hok).size hb.size
   rw [← AT.out] at Jn
   clear HJ HK HV hN hv5 hb HBr
   go_wp2
   go_roundg (l.length - (j + 1))
   case measure => omega
   case rel => exact ⟨j + 1, ap4_, by omega, hnn, Jn, HBn⟩
  ·obtain rfl : j = l.length := by omega
   rw [List.take_length] at JLr
   go_wp2
   go_ret2
   exact ⟨g, _, rfl, JLr.out, HBr.out⟩
theorem tkaw_calls (w : World) : Calls Tryz.prog 10 #[] w fun e w' => e = .returned (.bool true) ∧ Below w.heap.size w w' := by
 obtain ⟨y1, hy1⟩ : ∃ y : List ByteArray, y = [(⟨#[99, 97, 116]⟩ : ByteArray)] := ⟨_, rfl⟩
 have hyl : y1.length ≤ 6 := by rw [hy1]; show 1 ≤ 6; omega
 have hys : ∀ s ∈ y1, s.size ≤ 600 := by
  rw [hy1]
  intro s hs
  obtain rfl := List.mem_singleton.1 hs
  decide
 obtain ⟨S1, S2, T⟩ := tk_aw
 rw [← hy1] at T
 obtain ⟨S0, hS0⟩ : ∃ z, begK y1 = z := ⟨_, rfl⟩
 rw [hS0] at T
 have AT := As_ hS0
 have k0 := T.k0.mono (show 10 ≤ 100000 by omega)
 have k1 := T.k1.mono (show 10 ≤ 100000 by omega)
 have k2 := T.k2.mono (show 10 ≤ 100000 by omega)
 have K0 := T.k0.mono (show 10 ≤ 1000000 by omega)
 have K1 := T.k1.mono (show 10 ≤ 1000000 by omega)
 have K2 := T.k2.mono (show 10 ≤ 1000000 by omega)
 have m1 := T.m1
 have m2 := T.m2
 have g1 := T.g1
 have n1 := T.n1
 have v1 := T.v1
 have g2 := T.g2
 have b1 := T.b1
 have b2 := T.b2
 have n0 := T.n0
 have m3 := T.m3
 have v2 := T.v2
 have Ny1 := As_ hy1
 have HB := As_ (Below.refl w.heap.size w)
 clear T hS0 hy1
 go_enter Tryz.func10, Tryz.ntmps10
 go_wp2_with (first | ((with_reducible refine gate_dst (N := 15) rfl ?_); (try (refine gate_guard (by rfl) ?_; dsimp only)); refine Kd.R_lit Kd.string _ 9 ?hg (N := 15) ?hd (xs := ([(⟨#[99, 97, 116]⟩ : ByteArray)] : List ByteArray)) (inner := [.string ⟨#[99, 97, 116]⟩]) (ok := fun _ => True) (okp := fun _ => True) ?hr ?hp (fun _ hk => hk) trivial (Below.refl _ _) (Nat.le_refl _) (by simp) ?_; (case hd => rfl); (case hg => rfl); (case hr => first | (go_simp; done) | (go_simp; rfl)); (case hp => exact (Reps.one (show Kd.M Kd.string _ _ _ (⟨#[99, 97, 116]⟩ : ByteArray) [.string ⟨#[99, 97, 116]⟩] from rfl) (Reps.none _ _))); intro vlit wy1 hlit hb hg_ hnew_; clear hg_ hnew_; rw [← Ny1.out] at hlit; obtain ⟨Ay1, cy1, el_⟩ := Kd.R_slice hlit; subst el_; have Ry1 := As_ hlit; clear hlit; replace HB := As_ (below_step (blwG) hb); clear hb))
 refine (tk_begin Ay1 cy1 y1 (Kd.R_reads' Ry1.out).2.2 (Kd.R_reads' Ry1.out).2.1 hyl hys).mono ?_
 rintro e w1 ⟨g, v, rfl, hj1, hb⟩
 have hn1 := HB.out.size
 have HB1 := As_ (HB.out.trans (hb.mono HB.out.size))
 rw [AT.out] at hj1
 obtain ⟨ok, hlt2, hm2, _⟩ := hj1
 have hokw : ∀ k, ok k → w.heap.size ≤ k := fun k hk => Nat.le_trans hn1 (hlt2 k hk).1
 have HJ := As_ (JS.start hm2 hb.size)
 have HK := As_ (JK.of_below (HB1.out : Below w.heap.size w w1))
 clear hm2 hlt2 hb HB Ry1 Ny1 hyl hys hn1 AT
 go_upto_region 3 with (first | ((with_reducible refine gate_dst (N := 3) rfl ?_); refine bxE (N := 3) (cs := #[.string ⟨#[]⟩, .string ⟨#[]⟩, .string ⟨#[]⟩, .string ⟨#[]⟩, .string ⟨#[]⟩]) (t := 23) ?_; intro gbt hg wt hbox hb; have GKt := As_ ((by rw [hg]; exact JK.size (jkG) : w.heap.size ≤ gbt)); have GJt := As_ ((by rw [hg]; exact JS.size0 (base := wy1.heap.size) (ok := ok) (w0 := w1) (g := g) (cur := S0) (jsG) : w1.heap.size ≤ gbt)); replace HK := As_ (HK.out.trans (JK.of_below hb)); replace HJ := As_ (JS.below (base := wy1.heap.size) (ok := ok) (w0 := w1) (g := g) (cur := S0) (jsG) hb); have BKt := As_ hbox; clear hb hbox hg; obtain ⟨zt_0, ft_0, zt_1, ft_1, zt_2, ft_2, zt_3, ft_3, zt_4, ft_4⟩ := cellsN5 BKt.out; obtain ⟨zt_0, ft_0, zt_1, ft_1, zt_2, ft_2, zt_3, ft_3, zt_4, ft_4⟩ := cellsN5 BKt.out))
 refine start_ (n := 8) (S := fun w' => HeldC gbt #[.string ⟨#[99, 97, 116]⟩, .string ⟨#[49]⟩, .string ⟨#[117]⟩, .string ⟨#[100]⟩, .string ⟨#[97, 108]⟩] 23 w') (ds := []) #[false, false, false, false, false, false, false, false] (by kernel_rfl) rfl rfl (HeldC.of (bkG_t)) (fun hHeld => ?_)
 have n_HJ := at_world hHeld (F := fun Y => JS wy1.heap.size ok w1 g S0 Y) (jsG)
 have n_HK := at_world hHeld (F := fun Y => JK w Y) (jkG)
 have n_BKt := at_world hHeld (F := fun Y => Y.heap[gbt]? = some (.cells #[.string ⟨#[99, 97, 116]⟩, .string ⟨#[49]⟩, .string ⟨#[117]⟩, .string ⟨#[100]⟩, .string ⟨#[97, 108]⟩] 23 (0, 0))) (bkG_t)
 clear HJ HK BKt
 have HJ := n_HJ
 have HK := n_HK
 have BKt := n_BKt
 clear n_HJ n_HK n_BKt
 refine pure_ (i := 0) (N := some 20) #[true, false, false, false, false, false, false, false] rfl rfl (by kernel_rfl) (fun _ _ _ h => h) (Or.inl ⟨by rfl, ap2_⟩) ap35_ ?_
 refine take_ (i := 1) (N := some 21) #[true, true, false, false, false, false, false, false] rfl rfl (by kernel_rfl) (fun _ _ _ h => h) (Or.inl ⟨by rfl, (by rintro w' s0; have t0_0 : w'.cell? ⟨gbt, 0, none⟩ = some (.string ⟨#[99, 97, 116]⟩) := (blk_cell (HeldC.blk s0) 0).trans rfl; have t0_1 : w'.cell? ⟨gbt, 1, none⟩ = some (.string ⟨#[49]⟩) := (blk_cell (HeldC.blk s0) 1).trans rfl; have t0_2 : w'.cell? ⟨gbt, 2, none⟩ = some (.string ⟨#[117]⟩) := (blk_cell (HeldC.blk s0) 2).trans rfl; have t0_3 : w'.cell? ⟨gbt, 3, none⟩ = some (.string ⟨#[100]⟩) := (blk_cell (HeldC.blk s0) 3).trans rfl; have t0_4 : w'.cell? ⟨gbt, 4, none⟩ = some (.string ⟨#[97, 108]⟩) := (blk_cell (HeldC.blk s0) 4).trans rfl; go_simp; with_reducible rfl)⟩) hHeld ap35_ ?_
 refine pure_ (i := 3) (N := some 23) #[true, true, false, true, false, false, false, false] rfl rfl (by kernel_rfl) (fun _ _ _ h => h) (Or.inl ⟨by rfl, ap2_⟩) ap35_ ?_
 refine take_ (i := 4) (N := some 24) #[true, true, false, true, true, false, false, false] rfl rfl (by kernel_rfl) (fun _ _ _ h => h) (Or.inl ⟨by rfl, (by rintro w' s0; have t0_0 : w'.cell? ⟨gbt, 0, none⟩ = some (.string ⟨#[99, 97, 116]⟩) := (blk_cell (HeldC.blk s0) 0).trans rfl; have t0_1 : w'.cell? ⟨gbt, 1, none⟩ = some (.string ⟨#[49]⟩) := (blk_cell (HeldC.blk s0) 1).trans rfl; have t0_2 : w'.cell? ⟨gbt, 2, none⟩ = some (.string ⟨#[117]⟩) := (blk_cell (HeldC.blk s0) 2).trans rfl; have t0_3 : w'.cell? ⟨gbt, 3, none⟩ = some (.string ⟨#[100]⟩) := (blk_cell (HeldC.blk s0) 3).trans rfl; have t0_4 : w'.cell? ⟨gbt, 4, none⟩ = some (.string ⟨#[97, 108]⟩) := (blk_cell (HeldC.blk s0) 4).trans rfl; go_simp; with_reducible rfl)⟩) hHeld ap35_ ?_
 refine one_ (i := 2) (N := some 22) #[true, true, true, true, true, false, false, false] rfl rfl (by kernel_rfl) (by decide) (fun K hK => ?_)
 refine goes_ Tryz.func7 (by kernel_rfl) rfl #[.pointer (some ⟨g, 0, none⟩), .agg #[.string ⟨#[99, 97, 116]⟩, .string ⟨#[49]⟩, .string ⟨#[117]⟩, .string ⟨#[100]⟩, .string ⟨#[97, 108]⟩]] (by rfl) rfl rfl ap16_ ?_
 refine (tk_mint (⟨#[99, 97, 116]⟩ : ByteArray) (⟨#[49]⟩ : ByteArray) (⟨#[117]⟩ : ByteArray) (⟨#[100]⟩ : ByteArray) (⟨#[97, 108]⟩ : ByteArray) 0 S1 HJ.out k0 (by decide) (by decide) (by decide) (by decide) (by decide) m1.1 m1.2).mono ?_
 rintro e w2 ⟨rfl, hj, hk⟩
 refine ⟨_, rfl, ?_⟩
 replace HK := As_ (HK.out.trans hk)
 replace HJ := As_ (hj)
 replace BKt := As_ (JK.blk (b := gbt) (c := #[.string ⟨#[99, 97, 116]⟩, .string ⟨#[49]⟩, .string ⟨#[117]⟩, .string ⟨#[100]⟩, .string ⟨#[97, 108]⟩]) (q := 23) (x := (0, 0)) hk (bkG_t) (by decide))
 clear hj hk
 refine hK.out _ _ (HeldC.of BKt.out) (fun hHeld => ?_)
 clear hK K
 refine norm_ (a' := ?_) ?_ ?_
 rotate_left
 ·show Act.put _ (some 22) _ = _
  simp only [Act.put, List.setIfInBounds_toArray, List.set_cons_zero, List.set_cons_succ, i64_w, i32_w]
  rfl
 refine one_ (i := 5) (N := some 25) #[true, true, true, true, true, true, false, false] rfl rfl (by kernel_rfl) (by decide) (fun K hK => ?_)
 refine goes_ Tryz.func7 (by kernel_rfl) rfl #[.pointer (some ⟨g, 0, none⟩), .agg #[.string ⟨#[99, 97, 116]⟩, .string ⟨#[49]⟩, .string ⟨#[117]⟩, .string ⟨#[100]⟩, .string ⟨#[97, 108]⟩]] (by rfl) rfl rfl ap16_ ?_
 refine (tk_mint (⟨#[99, 97, 116]⟩ : ByteArray) (⟨#[49]⟩ : ByteArray) (⟨#[117]⟩ : ByteArray) (⟨#[100]⟩ : ByteArray) (⟨#[97, 108]⟩ : ByteArray) 9 S1 HJ.out k1 (by decide) (by decide) (by decide) (by decide) (by decide) m2.1 m2.2).mono ?_
 rintro e w3 ⟨rfl, hj, hk⟩
 refine ⟨_, rfl, ?_⟩
 replace HK := As_ (HK.out.trans hk)
 replace HJ := As_ (hj)
 replace BKt := As_ (JK.blk (b := gbt) (c := #[.string ⟨#[99, 97, 116]⟩, .string ⟨#[49]⟩, .string ⟨#[117]⟩, .string ⟨#[100]⟩, .string ⟨#[97, 108]⟩]) (q := 23) (x := (0, 0)) hk (bkG_t) (by decide))
 clear hj hk
 refine hK.out _ _ (HeldC.of BKt.out) (fun hHeld => ?_)
 clear hK K
 refine norm_ (a' := ?_) ?_ ?_
 rotate_left
 ·show Act.put _ (some 25) _ = _
  simp only [Act.put, List.setIfInBounds_toArray, List.set_cons_zero, List.set_cons_succ, i64_w, i32_w]
  rfl
 refine pure_ (i := 6) (N := some 4) #[true, true, true, true, true, true, true, false] rfl rfl (by kernel_rfl) (fun _ _ _ h => h) (Or.inl ⟨by rfl, ap2_⟩) ap35_ ?_
 refine pure_ (i := 7) (N := some 5) #[true, true, true, true, true, true, true, true] rfl rfl (by kernel_rfl) (fun _ _ _ h => h) (Or.inl ⟨by rfl, ap2_⟩) ap35_ ?_
 refine done_ (by kernel_rfl) ?_
 clear hHeld
 obtain ⟨zt_0, ft_0, zt_1, ft_1, zt_2, ft_2, zt_3, ft_3, zt_4, ft_4⟩ := cellsN5 BKt.out
 go_wp2_with fail
 refine (tk_get (⟨#[99, 97, 116]⟩ : ByteArray) (⟨#[49]⟩ : ByteArray) (⟨#[99, 97, 116]⟩ : ByteArray) (⟨#[49]⟩ : ByteArray) (⟨#[117]⟩ : ByteArray) (⟨#[100]⟩ : ByteArray) (⟨#[97, 108]⟩ : ByteArray) 0 HJ.out K1 (by decide) (by decide) g1).mono ?_
 rintro e w4 ⟨rfl, hb⟩
 replace HK := As_ (HK.out.trans (JK.of_below hb))
 replace HJ := As_ (JS.below (base := wy1.heap.size) (ok := ok) (w0 := w1) (g := g) (cur := S1) (jsG) hb)
 replace BKt := As_ (blk_below (g := gbt) (o := .cells #[.string ⟨#[99, 97, 116]⟩, .string ⟨#[49]⟩, .string ⟨#[117]⟩, .string ⟨#[100]⟩, .string ⟨#[97, 108]⟩] 23 (0, 0)) (bkG_t) hb)
 clear hb
 go_wp2_with (first | ((with_reducible refine gate_dst (N := 6) rfl ?_); refine bxE (N := 6) (cs := #[.string ⟨#[]⟩, .string ⟨#[]⟩, .string ⟨#[]⟩, .string ⟨#[]⟩, .string ⟨#[]⟩]) (t := 23) ?_; intro gbx hg wx hbox hb; have GKx := As_ ((by rw [hg]; exact JK.size (jkG) : w.heap.size ≤ gbx)); have GJx := As_ ((by rw [hg]; exact JS.size0 (base := wy1.heap.size) (ok := ok) (w0 := w1) (g := g) (cur := S1) (jsG) : w1.heap.size ≤ gbx)); have NBt_x := As_ ((by rw [hg]; exact Nat.ne_of_lt (blk_lt (g := gbt) (o := .cells #[.string ⟨#[99, 97, 116]⟩, .string ⟨#[49]⟩, .string ⟨#[117]⟩, .string ⟨#[100]⟩, .string ⟨#[97, 108]⟩] 23 (0, 0)) (bkG_t)) : gbt ≠ gbx)); have NBx_t := As_ ((by rw [hg]; exact Nat.ne_of_gt (blk_lt (g := gbt) (o := .cells #[.string ⟨#[99, 97, 116]⟩, .string ⟨#[49]⟩, .string ⟨#[117]⟩, .string ⟨#[100]⟩, .string ⟨#[97, 108]⟩] 23 (0, 0)) (bkG_t)) : gbx ≠ gbt)); replace HK := As_ (HK.out.trans (JK.of_below hb)); replace HJ := As_ (JS.below (base := wy1.heap.size) (ok := ok) (w0 := w1) (g := g) (cur := S1) (jsG) hb); replace BKt := As_ (blk_below (g := gbt) (o := .cells #[.string ⟨#[99, 97, 116]⟩, .string ⟨#[49]⟩, .string ⟨#[117]⟩, .string ⟨#[100]⟩, .string ⟨#[97, 108]⟩] 23 (0, 0)) (bkG_t) hb); have BKx := As_ hbox; clear hb hbox hg; obtain ⟨zx_0, fx_0, zx_1, fx_1, zx_2, fx_2, zx_3, fx_3, zx_4, fx_4⟩ := cellsN5 BKx.out; have hnxt := NBx_t.out; have hmxt := NBt_x.out; obtain ⟨zx_0, fx_0, zx_1, fx_1, zx_2, fx_2, zx_3, fx_3, zx_4, fx_4⟩ := cellsN5 BKx.out; have hnxt := NBx_t.out; have hmxt := NBt_x.out; obtain ⟨zt_0, ft_0, zt_1, ft_1, zt_2, ft_2, zt_3, ft_3, zt_4, ft_4⟩ := cellsN5 BKt.out; have hntx := NBt_x.out; have hmtx := NBx_t.out))
 refine (tk_supply (base := wy1.heap.size) (ok := ok) (w0 := w1) (g := g) (cur := S1) (⟨#[99, 97, 116]⟩ : ByteArray) 1 (jsG) K1 (by decide) n1).mono ?_
 rintro e w5 ⟨rfl, hb⟩
 replace HK := As_ ((jkG : JK _ _).trans (JK.of_below hb))
 replace HJ := As_ (JS.below (base := wy1.heap.size) (ok := ok) (w0 := w1) (g := g) (cur := S1) (jsG) hb)
 replace BKt := As_ (blk_below (g := gbt) (o := .cells #[.string ⟨#[99, 97, 116]⟩, .string ⟨#[49]⟩, .string ⟨#[117]⟩, .string ⟨#[100]⟩, .string ⟨#[97, 108]⟩] 23 (0, 0)) (bkG_t) hb)
 replace BKx := As_ (blk_below (g := gbx) (o := .cells #[.string ⟨#[99, 97, 116]⟩, .string ⟨#[49]⟩, .string ⟨#[117]⟩, .string ⟨#[100]⟩, .string ⟨#[97, 108]⟩] 23 (0, 0)) (bkG_x) hb)
 clear hb
 go_wp2_with fail
 refine (tk_move (⟨#[99, 97, 116]⟩ : ByteArray) (⟨#[49]⟩ : ByteArray) (⟨#[98, 111]⟩ : ByteArray) 0 S2 HJ.out k1 (by decide) (by decide) (by decide) v1.1 v1.2).mono ?_
 rintro e w6 ⟨rfl, hj, hk⟩
 replace HK := As_ (HK.out.trans hk)
 replace HJ := As_ (hj)
 replace BKt := As_ (JK.blk (b := gbt) (c := #[.string ⟨#[99, 97, 116]⟩, .string ⟨#[49]⟩, .string ⟨#[117]⟩, .string ⟨#[100]⟩, .string ⟨#[97, 108]⟩]) (q := 23) (x := (0, 0)) hk (bkG_t) (by decide))
 replace BKx := As_ (JK.blk (b := gbx) (c := #[.string ⟨#[99, 97, 116]⟩, .string ⟨#[49]⟩, .string ⟨#[117]⟩, .string ⟨#[100]⟩, .string ⟨#[97, 108]⟩]) (q := 23) (x := (0, 0)) hk (bkG_x) (by decide))
 clear hj hk
 go_wp2_with fail
 refine (tk_get (⟨#[99, 97, 116]⟩ : ByteArray) (⟨#[49]⟩ : ByteArray) (⟨#[99, 97, 116]⟩ : ByteArray) (⟨#[49]⟩ : ByteArray) (⟨#[117]⟩ : ByteArray) (⟨#[100]⟩ : ByteArray) (⟨#[98, 111]⟩ : ByteArray) 0 HJ.out K2 (by decide) (by decide) g2).mono ?_
 rintro e w7 ⟨rfl, hb⟩
 replace HK := As_ (HK.out.trans (JK.of_below hb))
 replace HJ := As_ (JS.below (base := wy1.heap.size) (ok := ok) (w0 := w1) (g := g) (cur := S2) (jsG) hb)
 replace BKt := As_ (blk_below (g := gbt) (o := .cells #[.string ⟨#[99, 97, 116]⟩, .string ⟨#[49]⟩, .string ⟨#[117]⟩, .string ⟨#[100]⟩, .string ⟨#[97, 108]⟩] 23 (0, 0)) (bkG_t) hb)
 replace BKx := As_ (blk_below (g := gbx) (o := .cells #[.string ⟨#[99, 97, 116]⟩, .string ⟨#[49]⟩, .string ⟨#[117]⟩, .string ⟨#[100]⟩, .string ⟨#[97, 108]⟩] 23 (0, 0)) (bkG_x) hb)
 clear hb
 go_wp2_with (first | ((with_reducible refine gate_dst (N := 10) rfl ?_); refine bxE (N := 10) (cs := #[.string ⟨#[]⟩, .string ⟨#[]⟩, .string ⟨#[]⟩, .string ⟨#[]⟩, .string ⟨#[]⟩]) (t := 23) ?_; intro gby hg wy hbox hb; have GKy := As_ ((by rw [hg]; exact JK.size (jkG) : w.heap.size ≤ gby)); have GJy := As_ ((by rw [hg]; exact JS.size0 (base := wy1.heap.size) (ok := ok) (w0 := w1) (g := g) (cur := S2) (jsG) : w1.heap.size ≤ gby)); have NBt_y := As_ ((by rw [hg]; exact Nat.ne_of_lt (blk_lt (g := gbt) (o := .cells #[.string ⟨#[99, 97, 116]⟩, .string ⟨#[49]⟩, .string ⟨#[117]⟩, .string ⟨#[100]⟩, .string ⟨#[97, 108]⟩] 23 (0, 0)) (bkG_t)) : gbt ≠ gby)); have NBy_t := As_ ((by rw [hg]; exact Nat.ne_of_gt (blk_lt (g := gbt) (o := .cells #[.string ⟨#[99, 97, 116]⟩, .string ⟨#[49]⟩, .string ⟨#[117]⟩, .string ⟨#[100]⟩, .string ⟨#[97, 108]⟩] 23 (0, 0)) (bkG_t)) : gby ≠ gbt)); have NBx_y := As_ ((by rw [hg]; exact Nat.ne_of_lt (blk_lt (g := gbx) (o := .cells #[.string ⟨#[99, 97, 116]⟩, .string ⟨#[49]⟩, .string ⟨#[117]⟩, .string ⟨#[100]⟩, .string ⟨#[97, 108]⟩] 23 (0, 0)) (bkG_x)) : gbx ≠ gby)); have NBy_x := As_ ((by rw [hg]; exact Nat.ne_of_gt (blk_lt (g := gbx) (o := .cells #[.string ⟨#[99, 97, 116]⟩, .string ⟨#[49]⟩, .string ⟨#[117]⟩, .string ⟨#[100]⟩, .string ⟨#[97, 108]⟩] 23 (0, 0)) (bkG_x)) : gby ≠ gbx)); replace HK := As_ (HK.out.trans (JK.of_below hb)); replace HJ := As_ (JS.below (base := wy1.heap.size) (ok := ok) (w0 := w1) (g := g) (cur := S2) (jsG) hb); replace BKt := As_ (blk_below (g := gbt) (o := .cells #[.string ⟨#[99, 97, 116]⟩, .string ⟨#[49]⟩, .string ⟨#[117]⟩, .string ⟨#[100]⟩, .string ⟨#[97, 108]⟩] 23 (0, 0)) (bkG_t) hb); replace BKx := As_ (blk_below (g := gbx) (o := .cells #[.string ⟨#[99, 97, 116]⟩, .string ⟨#[49]⟩, .string ⟨#[117]⟩, .string ⟨#[100]⟩, .string ⟨#[97, 108]⟩] 23 (0, 0)) (bkG_x) hb); have BKy := As_ hbox; clear hb hbox hg; obtain ⟨zy_0, fy_0, zy_1, fy_1, zy_2, fy_2, zy_3, fy_3, zy_4, fy_4⟩ := cellsN5 BKy.out; have hnyt := NBy_t.out; have hmyt := NBt_y.out; have hnyx := NBy_x.out; have hmyx := NBx_y.out; obtain ⟨zy_0, fy_0, zy_1, fy_1, zy_2, fy_2, zy_3, fy_3, zy_4, fy_4⟩ := cellsN5 BKy.out; have hnyt := NBy_t.out; have hmyt := NBt_y.out; have hnyx := NBy_x.out; have hmyx := NBx_y.out))
 refine (tk_burn (base := wy1.heap.size) (ok := ok) (w0 := w1) (g := g) (cur := S2) (⟨#[99, 97, 116]⟩ : ByteArray) (⟨#[49]⟩ : ByteArray) 0 S0 (jsG) k2 (by decide) (by decide) b1.1 b1.2).mono ?_
 rintro e w8 ⟨rfl, hj, hk⟩
 replace HK := As_ ((jkG : JK _ _).trans hk)
 replace HJ := As_ (hj)
 replace BKt := As_ (JK.blk (b := gbt) (c := #[.string ⟨#[99, 97, 116]⟩, .string ⟨#[49]⟩, .string ⟨#[117]⟩, .string ⟨#[100]⟩, .string ⟨#[97, 108]⟩]) (q := 23) (x := (0, 0)) hk (bkG_t) (by decide))
 replace BKx := As_ (JK.blk (b := gbx) (c := #[.string ⟨#[99, 97, 116]⟩, .string ⟨#[49]⟩, .string ⟨#[117]⟩, .string ⟨#[100]⟩, .string ⟨#[97, 108]⟩]) (q := 23) (x := (0, 0)) hk (bkG_x) (by decide))
 replace BKy := As_ (JK.blk (b := gby) (c := #[.string ⟨#[99, 97, 116]⟩, .string ⟨#[49]⟩, .string ⟨#[117]⟩, .string ⟨#[100]⟩, .string ⟨#[98, 111]⟩]) (q := 23) (x := (0, 0)) hk (bkG_y) (by decide))
 clear hj hk
 go_wp2_with fail
 refine (tk_burn (⟨#[99, 97, 116]⟩ : ByteArray) (⟨#[49]⟩ : ByteArray) 8 S0 HJ.out k0 (by decide) (by decide) b2.1 b2.2).mono ?_
 rintro e w9 ⟨rfl, hj, hk⟩
 replace HK := As_ (HK.out.trans hk)
 replace HJ := As_ (hj)
 replace BKt := As_ (JK.blk (b := gbt) (c := #[.string ⟨#[99, 97, 116]⟩, .string ⟨#[49]⟩, .string ⟨#[117]⟩, .string ⟨#[100]⟩, .string ⟨#[97, 108]⟩]) (q := 23) (x := (0, 0)) hk (bkG_t) (by decide))
 replace BKx := As_ (JK.blk (b := gbx) (c := #[.string ⟨#[99, 97, 116]⟩, .string ⟨#[49]⟩, .string ⟨#[117]⟩, .string ⟨#[100]⟩, .string ⟨#[97, 108]⟩]) (q := 23) (x := (0, 0)) hk (bkG_x) (by decide))
 replace BKy := As_ (JK.blk (b := gby) (c := #[.string ⟨#[99, 97, 116]⟩, .string ⟨#[49]⟩, .string ⟨#[117]⟩, .string ⟨#[100]⟩, .string ⟨#[98, 111]⟩]) (q := 23) (x := (0, 0)) hk (bkG_y) (by decide))
 clear hj hk
 obtain ⟨zt_0, ft_0, zt_1, ft_1, zt_2, ft_2, zt_3, ft_3, zt_4, ft_4⟩ := cellsN5 BKt.out
 have hntx := NBt_x.out
 have hmtx := NBx_t.out
 have hnty := NBt_y.out
 have hmty := NBy_t.out
 obtain ⟨zx_0, fx_0, zx_1, fx_1, zx_2, fx_2, zx_3, fx_3, zx_4, fx_4⟩ := cellsN5 BKx.out
 have hnxt := NBx_t.out
 have hmxt := NBt_x.out
 have hnxy := NBx_y.out
 have hmxy := NBy_x.out
 obtain ⟨zy_0, fy_0, zy_1, fy_1, zy_2, fy_2, zy_3, fy_3, zy_4, fy_4⟩ := cellsN5 BKy.out
 have hnyt := NBy_t.out
 have hmyt := NBt_y.out
 have hnyx := NBy_x.out
 have hmyx := NBx_y.out
 go_wp2_with fail
 refine (tk_supply (base := wy1.heap.size) (ok := ok) (w0 := w1) (g := g) (cur := S0) (⟨#[99, 97, 116]⟩ : ByteArray) 0 (jsG) K0 (by decide) n0).mono ?_
 rintro e w10 ⟨rfl, hb⟩
 replace HK := As_ ((jkG : JK _ _).trans (JK.of_below hb))
 replace HJ := As_ (JS.below (base := wy1.heap.size) (ok := ok) (w0 := w1) (g := g) (cur := S0) (jsG) hb)
 replace BKt := As_ (blk_below (g := gbt) (o := .cells #[.string ⟨#[100, 111, 103]⟩, .string ⟨#[49]⟩, .string ⟨#[117]⟩, .string ⟨#[100]⟩, .string ⟨#[97, 108]⟩] 23 (0, 0)) (bkG_t) hb)
 replace BKx := As_ (blk_below (g := gbx) (o := .cells #[.string ⟨#[99, 97, 116]⟩, .string ⟨#[49]⟩, .string ⟨#[117]⟩, .string ⟨#[100]⟩, .string ⟨#[97, 108]⟩] 23 (0, 0)) (bkG_x) hb)
 replace BKy := As_ (blk_below (g := gby) (o := .cells #[.string ⟨#[99, 97, 116]⟩, .string ⟨#[49]⟩, .string ⟨#[117]⟩, .string ⟨#[100]⟩, .string ⟨#[98, 111]⟩] 23 (0, 0)) (bkG_y) hb)
 clear hb
 obtain ⟨zt_0, ft_0, zt_1, ft_1, zt_2, ft_2, zt_3, ft_3, zt_4, ft_4⟩ := cellsN5 BKt.out
 have hntx := NBt_x.out
 have hmtx := NBx_t.out
 have hnty := NBt_y.out
 have hmty := NBy_t.out
 go_wp2_with fail
 refine (tk_mint (⟨#[100, 111, 103]⟩ : ByteArray) (⟨#[49]⟩ : ByteArray) (⟨#[117]⟩ : ByteArray) (⟨#[100]⟩ : ByteArray) (⟨#[97, 108]⟩ : ByteArray) 8 S0 HJ.out k0 (by decide) (by decide) (by decide) (by decide) (by decide) m3.1 m3.2).mono ?_
 rintro e w11 ⟨rfl, hj, hk⟩
 replace HK := As_ (HK.out.trans hk)
 replace HJ := As_ (hj)
 replace BKt := As_ (JK.blk (b := gbt) (c := #[.string ⟨#[100, 111, 103]⟩, .string ⟨#[49]⟩, .string ⟨#[117]⟩, .string ⟨#[100]⟩, .string ⟨#[97, 108]⟩]) (q := 23) (x := (0, 0)) hk (bkG_t) (by decide))
 replace BKx := As_ (JK.blk (b := gbx) (c := #[.string ⟨#[99, 97, 116]⟩, .string ⟨#[49]⟩, .string ⟨#[117]⟩, .string ⟨#[100]⟩, .string ⟨#[97, 108]⟩]) (q := 23) (x := (0, 0)) hk (bkG_x) (by decide))
 replace BKy := As_ (JK.blk (b := gby) (c := #[.string ⟨#[99, 97, 116]⟩, .string ⟨#[49]⟩, .string ⟨#[117]⟩, .string ⟨#[100]⟩, .string ⟨#[98, 111]⟩]) (q := 23) (x := (0, 0)) hk (bkG_y) (by decide))
 clear hj hk
 go_wp2_with fail
 refine (tk_move (⟨#[99, 97, 116]⟩ : ByteArray) (⟨#[50]⟩ : ByteArray) (⟨#[98, 111]⟩ : ByteArray) 8 S0 HJ.out k0 (by decide) (by decide) (by decide) v2.1 v2.2).mono ?_
 rintro e w12 ⟨rfl, hj, hk⟩
 replace HK := As_ (HK.out.trans hk)
 replace HJ := As_ (hj)
 replace BKt := As_ (JK.blk (b := gbt) (c := #[.string ⟨#[100, 111, 103]⟩, .string ⟨#[49]⟩, .string ⟨#[117]⟩, .string ⟨#[100]⟩, .string ⟨#[97, 108]⟩]) (q := 23) (x := (0, 0)) hk (bkG_t) (by decide))
 replace BKx := As_ (JK.blk (b := gbx) (c := #[.string ⟨#[99, 97, 116]⟩, .string ⟨#[49]⟩, .string ⟨#[117]⟩, .string ⟨#[100]⟩, .string ⟨#[97, 108]⟩]) (q := 23) (x := (0, 0)) hk (bkG_x) (by decide))
 replace BKy := As_ (JK.blk (b := gby) (c := #[.string ⟨#[99, 97, 116]⟩, .string ⟨#[49]⟩, .string ⟨#[117]⟩, .string ⟨#[100]⟩, .string ⟨#[98, 111]⟩]) (q := 23) (x := (0, 0)) hk (bkG_y) (by decide))
 clear hj hk
 have hfin := As_ (JW.toBelow HB1.out HB1.out.size HJ.out.jw hokw)
 clear HJ HK
 go_wp2
 go_ret
 exact ⟨rfl, hfin.out⟩
def footbridgeref23_key.f (k : Nat) (a0 : ByteArray) (a1 : ByteArray) : Option (ByteArray) := (footbridgeref14_Key.f k (([(⟨#[116, 111, 107, 101, 110]⟩ : ByteArray), a0, a1] : List ByteArray))).bind fun t277 => (some t277)
theorem footbridgeref23_key.mono : ∀ a0 a1 k, LeO (footbridgeref23_key.f k a0 a1) (footbridgeref23_key.f (k + 1) a0 a1) := by
 intro a0 a1 k
 unfold footbridgeref23_key.f
 repeat' first
   | (with_reducible exact footbridgeref14_Key.mono _ _)
   | (with_reducible exact LeO.refl _)
   | (with_reducible exact LeO.none _)
   | (with_reducible refine LeO.ite ?_ ?_)
   | (with_reducible refine LeO.bind ?_ (fun _ => ?_))
   | exact footbridgeref14_Key.mono _ _
   | exact LeO.none _
   | refine LeO.ite ?_ ?_
   | refine LeO.bind ?_ (fun _ => ?_)
theorem footbridgeref23_key.calls (k : Nat) (a0 : ByteArray) (a1 : ByteArray) (r : ByteArray) (w : World) (h : footbridgeref23_key.f k a0 a1 = some r) :
  Calls Tryz.prog 41 #[.string a0, .string a1] w fun e w' => e = .returned (.string r) ∧ Below w.heap.size w w' := by
 have HB := As_ (Below.refl w.heap.size w)
 have H : ((footbridgeref14_Key.f k (([(⟨#[116, 111, 107, 101, 110]⟩ : ByteArray), a0, a1] : List ByteArray))).bind fun t277 => (some t277)) = some r := h
 clear h
 obtain ⟨y274, hy274⟩ : ∃ y_ : List ByteArray, y_ = (([(⟨#[116, 111, 107, 101, 110]⟩ : ByteArray), a0, a1] : List ByteArray)) := ⟨_, rfl⟩
 replace H : ((footbridgeref14_Key.f k y274).bind fun t277 => (some t277)) = some r := by first | (rw [hy274]; with_reducible exact H) | (have H2_ := (Option.bind_some _ _).symm.trans H; rw [hy274]; with_reducible exact H2_) | (have H2_ := (Option.bind_some _ _).symm.trans H; with_reducible exact H2_) | with_reducible exact H | (rw [hy274]; exact H) | exact H
 have Ny274 := As_ hy274
 clear hy274
 replace H := Option.bind_eq_some_iff.mp H
 obtain ⟨t277, A30, H⟩ := H
 try dsimp only at H
 have A3 := As_ A30
 clear A30
 obtain rfl := Option.some.inj H
 go_enter Tryz.func41, Tryz.ntmps41
 go_wp2_with (first | ((with_reducible refine gate_dst (N := 7) rfl ?_); refine Kd.R_lit Kd.string _ 9 ?hg (N := 7) ?hd (xs := ([(⟨#[116, 111, 107, 101, 110]⟩ : ByteArray), a0, a1] : List ByteArray)) (inner := [.string ⟨#[116, 111, 107, 101, 110]⟩, .string a0, .string a1]) (ok := fun _ => True) (okp := fun _ => True) ?hr ?hp (fun _ hk => hk) trivial (Below.refl _ _) (Nat.le_refl _) (by simp) ?_; (case hd => rfl); (case hg => rfl); (case hr => first | (go_simp; done) | (go_simp; rfl)); (case hp => exact (Reps.one (show Kd.M Kd.string _ _ _ (⟨#[116, 111, 107, 101, 110]⟩ : ByteArray) [.string ⟨#[116, 111, 107, 101, 110]⟩] from rfl) (Reps.one (show Kd.M Kd.string _ _ _ a0 [.string a0] from rfl) (Reps.one (show Kd.M Kd.string _ _ _ a1 [.string a1] from rfl) (Reps.none _ _))))); intro v275 w4 ho5 hb hg_ hnew_; clear hg_ hnew_; (first | rw [← Ny274.out] at ho5 | (simp only [Int.reduceToNat] at ho5; rw [← Ny274.out] at ho5)); have HO276 := As_ (Kd.R_lower ho5 (below_size ap50_)); replace HB := As_ (below_step ap50_ hb); clear hb ho5; obtain ⟨Ao6, co6, eo6⟩ := Kd.R_slice HO276.out; subst eo6) | ((with_reducible refine gate_callee (f := 47) rfl ?_); refine gk_ (some 8) Tryz.func47 #[.slice Ao6 y274.length co6] ?_; (with_reducible refine (footbridgeref14_Key.calls k _ _ y274 t277 _ ?side1 ?side2 A3.out).mono ?_); (case side1 => repeat (first | exact (Kd.R_reads' HO276.out).2.2 | (with_reducible refine Kd.C_alloc ?_ _) | (with_reducible refine Kd.C_drewN ?_ _) | (with_reducible refine Kd.C_drew ?_))); (case side2 => exact (Kd.R_reads' HO276.out).2.1); rintro e w7 ⟨rfl, hb⟩; refine ⟨_, rfl, ?_⟩; replace HO276 := As_ (Kd.R_below (by (with_reducible repeat (first | apply Kd.R_alloc | apply Kd.R_drewN | apply Kd.R_drew)); exact HO276.out) hb); replace HB := As_ (below_step ap50_ hb); (try clear hb); (try clear hb2); (try clear hk); (try clear hi)))
 go_ret
 exact ⟨ap17_, ap50_⟩
end Go.Proofs.YtjappgjpikbdeaaGreatDoor.PTkp
